/- Part 2 of the proof of the law MovesTake: the walks through its functions and the plain laws that they need. -/
import Derived.Test.YthppkofceancjaaGreatMtZ1
import Derived.Test.YthppkofceancjaaGreatRows
import Derived.WalkKit
import Derived.ProofKit
import Derived.OpenShut
import Derived.Outline
import Derived.BigQuiet
import Derived.Deep.QuietTactic
import Derived.Deep.Draws
import Derived.IntWalk
import Derived.Lib.Hide
import Derived.SizedLaws
import Derived.Maps.AppendAt
import Derived.Deep.AppendLies
import Derived.Deep.DeepCutAuto
import Derived.Deep.CutBlock
import Derived.Deep.RegionWith
import Derived.Deep.RegionHeld3
import Derived.WalkSpells
import Derived.Laws.Cover3
import Derived.Laws.Pointers
import Derived.Laws.StructEq
import Derived.MapKept
import Derived.Carry
set_option linter.unusedSimpArgs false
set_option linter.unusedVariables false
noncomputable section
namespace Go.Proofs.YthppkofceancjaaGreat
open Go.ChangeShapes Go.WideShapes Go.ChangeAt Go.RowKit
theorem uT0:type_of%Tryz.underlying0:=Tryz.underlying0
theorem av:type_of%Tryz.underlying3:=Tryz.underlying3
theorem dL:type_of%Tryz.underlying4:=Tryz.underlying4
theorem uT5:type_of%Tryz.underlying5:=Tryz.underlying5
theorem uT9:type_of%Tryz.underlying9:=Tryz.underlying9
theorem ad2:type_of%Tryz.underlying20:=Tryz.underlying20
theorem bt:type_of%Tryz.underlying22:=Tryz.underlying22
theorem ay:type_of%Tryz.underlying24:=Tryz.underlying24
theorem aZ:type_of%Tryz.underlying26:=Tryz.underlying26
theorem aT:type_of%Tryz.underlying28:=Tryz.underlying28
theorem xh:type_of%Tryz.underlying29:=Tryz.underlying29
theorem Dt:type_of%Tryz.underlying35:=Tryz.underlying35
theorem dY:type_of%Tryz.underlying53:=Tryz.underlying53
theorem iZ:type_of%Tryz.underlying55:=Tryz.underlying55
theorem ad1:type_of%Tryz.underlying58:=Tryz.underlying58
theorem uI:type_of%Tryz.underlying59:=Tryz.underlying59
theorem Dr:type_of%Tryz.underlying62:=Tryz.underlying62
theorem dt:type_of%Tryz.underlying64:=Tryz.underlying64
theorem mr:type_of%Tryz.underlying65:=Tryz.underlying65
theorem cV:type_of%Tryz.underlying67:=Tryz.underlying67
theorem mX:type_of%Tryz.underlying68:=Tryz.underlying68
theorem dR:type_of%Tryz.underlying70:=Tryz.underlying70
theorem aW:type_of%Tryz.underlying77:=Tryz.underlying77
theorem ad0:type_of%Tryz.underlying98:=Tryz.underlying98
theorem CX:type_of%Tryz.underlying103:=Tryz.underlying103
theorem dH:type_of%Tryz.underlying120:=Tryz.underlying120
theorem fB:type_of%Tryz.underlying128:=Tryz.underlying128
theorem al2:type_of%Tryz.underlying130:=Tryz.underlying130
theorem iO:type_of%Tryz.underlying141:=Tryz.underlying141
theorem jB:type_of%Tryz.underlying150:=Tryz.underlying150
theorem al1:type_of%Tryz.underlying152:=Tryz.underlying152
theorem CW:type_of%Tryz.underlying180:=Tryz.underlying180
theorem al0:type_of%Tryz.underlying185:=Tryz.underlying185
theorem cO:type_of%Tryz.underlying190:=Tryz.underlying190
theorem wU:type_of%Tryz.underlying192:=Tryz.underlying192
theorem uo:type_of%Tryz.underlying208:=Tryz.underlying208
theorem zm:type_of%Tryz.underlying215:=Tryz.underlying215
theorem HT:type_of%Tryz.underlying222:=Tryz.underlying222
theorem alZ:type_of%Tryz.underlying236:=Tryz.underlying236
theorem alY:type_of%Tryz.underlying237:=Tryz.underlying237
theorem alX:type_of%Tryz.underlying241:=Tryz.underlying241
theorem alW:type_of%Tryz.underlying244:=Tryz.underlying244
theorem alV:type_of%Tryz.underlying246:=Tryz.underlying246
theorem ac5:type_of%Tryz.underlying249:=Tryz.underlying249
theorem zk:type_of%Tryz.underlying251:=Tryz.underlying251
theorem se:type_of%Tryz.underlying252:=Tryz.underlying252
theorem alU:type_of%Tryz.underlying265:=Tryz.underlying265
theorem alT:type_of%Tryz.underlying276:=Tryz.underlying276
end Go.Proofs.YthppkofceancjaaGreat
namespace Go.Proofs.YthppkofceancjaaGreat
open Go.ChangeShapes Go.WideShapes Go.ChangeAt Go.RowKit
section
variable {P : Program} {o : Oper} {L : List (Nat × Value)} {w w' : World} {x y z : Operand} {t t' T E : TypeId} {a b : Int} {v u : Value} {n d : Nat} {M M' : Hp} {X : Fr} {H H' : List Rs} {i g off : Nat} {l : List Value}
theorem Uo{P:Program}{f:FuncId}{fn:Func}{c:Code}(hf:P.funcs[f]? =some fn)(hname:(fn.name== "runtime.NumGoroutine")=false)(hb:fn.body=some c)(args:Array Value)(w:World):(callFunc f args).run P w=.ok (.enter f args) w:=by
 have h1:fn.name≠ "runtime.NumGoroutine":=by simpa using hname
 simp[callFunc,hf,h1,hb]
def plOk(k:Nat):Nat->List (Nat×Nat)->Bool
 |_,[]=>true
 |i,(p,q)::r=>Nat.beq p (i*k)&&Nat.beq q k&&plOk k (i+1) r
theorem F9{k:Nat}:∀{pl:List (Nat×Nat)}{j:Nat},plOk k j pl=true->∀i p,nth pl i=some p->p=((j+i)*k,k)
 |[],_,_,i,p,h=>by simp[nth]at h
 |(a,b)::r,j,hp,0,p,h=>by
  simp only[plOk,Bool.and_eq_true]at hp
  simp only[nth,Option.some.injEq]at h
  rw[<-h,Nat.eq_of_beq_eq_true hp.1.1,Nat.eq_of_beq_eq_true hp.1.2,Nat.add_zero]
 |(a,b)::r,j,hp,i+1,p,h=>by
  simp only[plOk,Bool.and_eq_true]at hp
  simp only[nth]at h
  rw[F9 hp.2 i p h,show j+1+i=j+(i+1) by omega]
theorem Gt{pl:List (Nat×Nat)}{place:Nat->Option (Nat×Nat)}(hpl:∀i p,nth pl i=some p->place i=some p):∀(ps:List (Nat×Value)) (cs:Array Value) (out:List Value),fillL pl cs.toList ps=some out->Instr.fill place cs ps=some out.toArray
 |[],cs,out,h=>by
  simp only[fillL,Option.some.injEq]at h
  subst h
  simp[Instr.fill]
 |(i,v)::r,cs,out,h=>by
  unfold fillL at h
  unfold Instr.fill
  split at h
  ·cases h
  ·rename_i p hp
   simp only[hpl i p hp]
   split at h
   ·rename_i hc
    simp only[Bool.and_eq_true]at hc
    have h1:v.cells.size=p.2:=by have:=Nat.eq_of_beq_eq_true hc.1;simpa using this
    have h2:p.1+p.2<=cs.size:=by have:=Nat.le_of_ble_eq_true hc.2;simpa using this
    obtain⟨po,ps⟩:=p
    simp only at h1 h2 h ⊢
    rw[if_neg (by simp[h1];omega)]
    refine Gt hpl r _ out ?_
    rw[<-Array.foldl_toList,Array.toList_zipIdx,foldl_set,Nat.add_zero]
    exact h
   ·cases h
theorem jN{pl:List (Nat×Nat)}{zl:List Value}{ps:List (Nat×Operand)}{vs:List (Nat×Value)}{pa:Array (Nat×Operand)}{len k:Nat}(hop:o.op=.build T pa)(vG:pa=ps.toArray)(hu:P.underlying T=some (.array len E))(hz:(P.info? T).map (·.zero)=some (some (.agg zl.toArray)))
  (hk:(P.info? E).map (·.size)=some k)(hpl:plOk k 0 pl=true)(hps:partL L ps=some vs)(hl:fillL pl zl vs=some l):Run P o L w (.agg l.toArray) w:=by
 intro n c he
 subst vG
 unfold execOp
 have e:=Ce he hps
 have hf:=Gt (pl:=pl) (place:=fun i=>some (i*k,k)) (fun i p hp=>by rw[F9 hpl i p hp,Nat.zero_add]) vs zl.toArray l (by simpa using hl)
 simp only[hop,Instr.build,yJ hz,run_underlying hu,run_sizeOf hk,Sem.run_bind,Sem.run_pure,Result.andThen_ok,List.map_toArray,e]
 rw[show Value.cells (.agg zl.toArray)=zl.toArray from rfl,hf]
 rfl
theorem ak0(xs:List Int)(e:Nat)(h:e<xs.length):nth (xs.map (Value.int .i64)) e=some (.int .i64 (ga xs e)):=by
 rw[eN,List.getElem?_map,ace h];rfl
theorem yn{cs:List Value}{e len:Nat}{dd:TypeDesc}(hop:o.op=.index T x y)(hx:oev L x=some (.agg cs.toArray))(hy:oev L y=some (.int .i64 a))(hu:P.underlying T=some (.array len E))(hE:P.underlying E=some dd)(hf:pO dd=true)(hk:(P.info? E).map (·.size)=some 1)
  (ha:a=(e:Int))(he:e<len)(hv:nth cs e=some v):Run P o L w v w:=by
 intro n c hc
 unfold execOp
 rw[eN]at hv
 have hv':cs.toArray[e]? =some v:=by simpa using hv
 have h1:(0:Int)<=(e:Int)/\(e:Int)<(len:Int):=by omega
 simp only[hop,hc.eval hx,hc.eval hy,Instr.index,asIntOf,Sem.run_bind,Sem.run_pure,Result.andThen_ok,run_underlying hu,ha,h1,and_self,if_true,run_sizeOf hk,Int.toNat_natCast,part,vT hE,hf,Bool.not_true,Bool.false_eq_true,if_false,Nat.mul_one,hv']
theorem iD{bo:Nat}{e k len:Nat}(hop:o.op=.indexAddr T x y)(hx:oev L x=some (.pointer (some ⟨g,bo,none⟩)))(hy:oev L y=some (.int .i64 a))(hu:P.underlying T=some (.array len E))(hk:(P.info? E).map (·.size)=some k)
  (ha:a=(e:Int))(he:e<len):Run P o L w (.pointer (some ⟨g,bo+e*k,none⟩)) w:=by
 intro n c he'
 unfold execOp
 have h1:(0:Int)<=(e:Int)/\(e:Int)<(len:Int):=by omega
 simp only[hop,he'.eval hx,he'.eval hy,Instr.indexAt,asIntOf,Instr.sureAddr,Sem.run_bind,Sem.run_pure,Result.andThen_ok,run_underlying hu,ha,h1,and_self,if_true,run_sizeOf hk,Int.toNat_natCast,abF]
end
def X0(W:World):Fr:=⟨fun _=>none,W⟩
theorem SH.start(W:World):SH W (hp W) (X0 W) []:=
 ⟨Hp.le_refl _,(fun b o e=>by cases e),(fun b o e=>by cases e),(fun s hs=>by cases hs),(fun s hs=>by cases hs),(fun i j r s _ hr=>by simp at hr),gX.refl W⟩
theorem SH.below{W w:World}{M:Hp}(h:(hp W).le M)(S:SH w M (X0 W) []):Below W.heap.size W w:=by
 refine⟨S.like.os,S.like.tape,S.like.output,S.like.size,fun k hk=>?_⟩
 have e:hp W k=some W.heap[k]:=Array.getElem?_eq_getElem hk
 have:=S.m k _ (h k _ e)
 unfold hp at this e
 rw[this,e]
theorem aib{P:Program}{f:FuncId}{vs:List Value}{W:World}(h:Ct P f vs W (hp W) (X0 W) (fun u _=>u=.bool true)):Calls P f vs.toArray W fun e W'=>e=.returned (.bool true)/\Below W.heap.size W W':=by
 refine h.mono ?_
 rintro e w' ⟨u,rfl,M',hle,S,rfl⟩
 exact⟨rfl,S.below hle⟩
end Go.Proofs.YthppkofceancjaaGreat
namespace Go.Proofs.YthppkofceancjaaGreat
open Go.ChangeShapes Go.WideShapes Go.ChangeAt Go.RowKit
def Kp(w w':World):Prop:=Below w.heap.size w w'
theorem Kp.refl(w:World):Kp w w:=Below.refl _ _
theorem Kp.trans{a b c:World}(h:Kp a b)(k:Kp b c):Kp a c:=Below.trans h (Below.mono k (Below.size h))
theorem Kp.size{a b:World}(h:Kp a b):a.heap.size<=b.heap.size:=Below.size h
theorem Kp.below{a b:World}(h:Kp a b):Below a.heap.size a b:=h
theorem below_drewN{B:Nat}{a w:World}(h:Below B a w)(n:Nat):Below B a (w.drewN n):=h.trans ⟨rfl,rfl,rfl,Nat.le_refl _,fun _ _=>rfl⟩
theorem Kp.drewN{a w:World}(h:Kp a w)(n:Nat):Kp a (w.drewN n):=below_drewN h n
theorem Kp.drew{a w:World}(h:Kp a w):Kp a w.drew:=Below.drew h
theorem Kp.alloc{a w:World}(h:Kp a w)(o:Obj):Kp a (w.alloc o):=Below.alloc h (Below.size h) o
theorem Kp.setCell{a w:World}(h:Kp a w){p:Addr}(hp:a.heap.size<=p.block)(u:Value):Kp a (w.setCell p u):=Below.setCell h hp u
theorem Kp.grown{a w w':World}{row:Option Nat}(h:Kp a w)(hg:w.grownBy w' row)(hr:∀k,row=some k->a.heap.size<=k):Kp a w':=Below.grown h hg (Below.size h) hr
def Sl(w:World)(B k u8:Nat)(A:Option Addr)(n:Nat)(xs:List Value):Prop:=
 xs.length=n*k/\n*u8<=140737488355328/\(0<n->∃b off,A=some ⟨b,off,none⟩/\b<B/\∀j u,xs[j]? =some u->w.cell? ⟨b,off+j,none⟩=some u)
section
variable {w w' : World} {B B' k u8 n : Nat} {A : Option Addr} {xs : List Value}
theorem Sl.len(h:Sl w B k u8 A n xs):xs.length=n*k:=h.1
theorem Sl.eX:Sl w B k u8 A 0 []:=⟨by simp,by simp,fun h=>absurd h (by omega)⟩
theorem Sl.at_(h:Sl w B k u8 A n xs)(hn:0<n):∃b off,A=some ⟨b,off,none⟩/\b<B/\∀j u,xs[j]? =some u->w.cell? ⟨b,off+j,none⟩=some u:=h.2.2 hn
theorem Sl.keep(h:Sl w B k u8 A n xs)(hk:∀p:Addr,p.block<B->w'.cell? p=w.cell? p):Sl w' B k u8 A n xs:=
 ⟨h.1,h.2.1,fun hn=>by
  obtain⟨b,off,e,hb,hc⟩:=h.2.2 hn
  exact⟨b,off,e,hb,fun j u hu=>(hk _ hb).trans (hc j u hu)⟩⟩
theorem Sl.mono(h:Sl w B k u8 A n xs)(hB:B<=B'):Sl w B' k u8 A n xs:=
 ⟨h.1,h.2.1,fun hn=>by
  obtain⟨b,off,e,hb,hc⟩:=h.2.2 hn
  exact⟨b,off,e,by omega,hc⟩⟩
theorem Sl.below(h:Sl w B k u8 A n xs)(hb:Below B w w'):Sl w' B k u8 A n xs:=h.keep fun _ hp=>hb.cell hp
theorem Sl.G3{base:Nat}{e:TypeId}{c:Nat}(h:w.ownsRow base e k (.slice A n c) n xs)(hr:n*u8<=140737488355328):Sl w w.heap.size k u8 A n xs:=by
 refine⟨h.1,hr,fun hn=>?_⟩
 rcases h.2 with⟨_,h0⟩|⟨g,cap,cur,hv,_,hh,_⟩
 ·omega
 ·injection hv with hA
  subst hA
  have hlt:=(h.lt g rfl).2
  refine⟨g,0,rfl,hlt,fun j u hu=>?_⟩
  have:=h.cells (g:=g) rfl j u hu
  rwa [Addr.add_lit]at this
end
def gi(xs:List Int)(i:Nat):Int:=xs.getD i 0
theorem Iz{xs:List Int}{i:Nat}(h:i<xs.length):gi xs i=xs[i]:=by simp[gi,h]
theorem acd{xs:List Int}{i:Nat}(h:i<xs.length):xs[i]? =some (gi xs i):=by simp[gi,h]
def iv(x:Int):Value:=.int .i64 x
def qx(w:World)(B:Nat)(A:Option Addr)(xs:List Int):Prop:=Sl w B 1 8 A xs.length (xs.map iv)
def Ints(w:World)(B:Nat)(v:Value)(xs:List Int):Prop:=∃A c,v=.slice A xs.length c/\xs.length<=c/\qx w B A xs
section
variable {w w' : World} {B B' : Nat} {A : Option Addr} {v : Value} {xs : List Int}
theorem qx.below(h:qx w B A xs)(hb:Below B w w'):qx w' B A xs:=Sl.below h hb
theorem qx.at_(h:qx w B A xs){i:Nat}(hi:i<xs.length):∃b off,A=some ⟨b,off,none⟩/\b<B/\w.cell? ⟨b,off+i,none⟩=some (.int .i64 (gi xs i)):=by
 obtain⟨b,off,e,hb,hc⟩:=Sl.at_ h (by omega)
 exact⟨b,off,e,hb,hc i _ (by rw[List.getElem?_map,acd hi];rfl)⟩
theorem qx.eX:qx w B A []:=Sl.eX
theorem Ints.below(h:Ints w B v xs)(hb:Below B w w'):Ints w' B v xs:=by
 obtain⟨A,c,e,hc,h⟩:=h
 exact⟨A,c,e,hc,h.below hb⟩
theorem Ints.G3{base:Nat}{e:TypeId}(h:w.ownsRow base e 1 v xs.length (xs.map iv))(hr:xs.length*8<=140737488355328):Ints w w.heap.size v xs:=by
 have h':=h
 rcases h.2 with⟨rfl,h0⟩|⟨g,cap,cur,rfl,_,_,hle,_⟩
 ·refine⟨none,0,by rw[h0],by omega,?_⟩
  unfold qx
  rw[h0]
  obtain rfl:xs=[]:=List.eq_nil_of_length_eq_zero h0
  exact Sl.eX
 ·exact⟨_,cap,rfl,hle,Sl.G3 h' hr⟩
end
section
variable {H : Type} {enc : TypeId × Value → H} {P : Program} {w : World}
end
def Bv(P:Program)(T E:TypeId)(k u8:Nat)(z:Value):Prop:=
 P.underlying T=some (.slice E)/\(P.info? E).map (fun i=>(i.zero,i.size,i.bytes))=some (some z,k,u8)/\z.cells.size=k/\0<k/\0<u8
abbrev Gr(w w':World)(row:Option Nat):Prop:=w.grownBy w' row
theorem GL(w:World)(row:Option Nat):Gr w w row:=⟨rfl,rfl,rfl,Nat.le_refl _,fun _ _ _=>rfl⟩
theorem ajb{a b:World}(h:Kp a b)(row:Option Nat):Gr a b row:=⟨h.os,h.tape,h.output,h.size,fun i hi _=>h.block i hi⟩
theorem acL{w w':World}{base:Nat}{e:TypeId}{k n:Nat}{v:Value}{xs:List Value}(h:w.ownsRow base e k v n xs)(hk:Kp w w'):w'.ownsRow base e k v n xs:=
 h.kept (ajb hk none) (by cases hb:v.ownBlock<;>simp)
theorem ahp{n u8:Nat}(h0:0<u8)(h:n*u8<=140737488355328):n<=maxLen:=by
 have:n*1<=n*u8:=Nat.mul_le_mul_left n h0
 unfold maxLen
 omega
theorem ahh{P:Program}{w:World}{ops:Array Oper}{rest:List Oper}{o:Oper}{a:Act}{Q:Exit->Act->World->Prop}{T E:TypeId}{k u8:Nat}{z:Value}(hT:Bv P T E k u8 z)
  (hgd:o.guard=none)(s x:Operand)(ho:o.op=.call {callee:=.builtin .append,args:=#[s,x],argTypes:=#[T,T]})
  {base:Nat}{v:Value}{n:Nat}{xs:List Value}(hown:w.ownsRow base E k v n xs)(hs:a.eval s=v){B:Nat}{A:Option Addr}{m c:Nat}{news:List Value}(hx:a.eval x=.slice A m c)
  (hsl:Sl w B k u8 A m news)(h1:∀u∈news,u.oneCell'=true)(hr:(n+m)*u8<=140737488355328)(hbase:base<=w.heap.size)
  (h:∀v' w',w'.ownsRow base E k v' (n+m) (xs++news)->Gr w w' v.ownBlock->(v'.ownBlock=v.ownBlock\/v'.ownBlock=some w.heap.size)->wpList P ops Q rest (a.put o.dst v') w'):
  wpList P ops Q (o::rest) a w:=by
 obtain⟨ht,hinfo,hzs,hsz,h8⟩:=hT
 obtain⟨i,hi,hz,hsize,hby⟩:=info_parts hinfo
 have key:∃v' w',(Builtin.append_ #[T,T] o.type #[v,.slice A m c]).run P w=.ok v' w'/\w'.ownsRow base E k v' (n+m) (xs++news)/\Gr w w' v.ownBlock/\(v'.ownBlock=v.ownBlock\/v'.ownBlock=some w.heap.size):=by
  rcases A with _|ad
  ·have hm:m=0:=by
    rcases Nat.eq_zero_or_pos m with h0|h0
    ·exact h0
    ·obtain⟨b,off,h,_⟩:=hsl.at_ h0
     cases h
   subst hm
   have hn:news=[]:=List.eq_nil_of_length_eq_zero (by simpa using hsl.len)
   subst hn
   refine⟨v,w,?_,by simpa using hown,GL _ _,.inl rfl⟩
   rcases hown.2 with⟨rfl,rfl⟩|⟨g,cap,cur,rfl,_,_,hnc,_⟩
   ·simp[Builtin.append_,run_underlying ht,sizeOf,typeInfo,hi,Builtin.lenOf,Builtin.firstCells]
   ·simp[Builtin.append_,run_underlying ht,sizeOf,typeInfo,hi,Builtin.lenOf,Builtin.firstCells,hnc,storeCells]
  ·have hcells:∀j u,news[j]? =some u->w.cell? (ad.add j)=some u:=by
    intro j u hu
    rcases Nat.eq_zero_or_pos m with h0|h0
    ·subst h0
     have hn:news=[]:=List.eq_nil_of_length_eq_zero (by simpa using hsl.len)
     subst hn
     simp at hu
    ·obtain⟨b,off,h,_,hc⟩:=hsl.at_ h0
     injection h with h
     subst h
     rw[Addr.add_lit]
     exact hc j u hu
   obtain⟨v',w',hrun,r1,r2,_,r3⟩:=run_append_own_at (P:=P) w base T o.type E i z k u8 ht hi hz hsize hby hzs hsz v n xs hown ad m c news hsl.len hcells h1 (ahp h8 hr) hr hbase
   exact⟨v',w',hrun,r1,r2,r3⟩
 obtain⟨v',w',hrun,r1,r2,r3⟩:=key
 refine wpList_plain hgd fun _ hK=>?_
 unfold Oper.wp execOp
 simp only[ho,resolve,invoke,builtin,Sem.run_bind,Sem.run_pure,Result.andThen_ok,List.map_toArray,List.map_cons,List.map_nil,hs,hx,hrun]
 exact hK _ _ (h v' w' r1 r2 r3)
theorem abX(w:World)(base:Nat)(e:TypeId)(k:Nat):w.ownsRow base e k (.slice none 0 0) 0 []:=World.ownsRow_nil w base e k
def fq(w:World)(base:Nat)(v:Value)(xs:List Int):Prop:=w.ownsRow base 3 1 v xs.length (xs.map iv)
section
variable {w w' : World} {base : Nat} {v : Value} {xs : List Int} {g cap : Nat}
theorem fq.eX:fq w base (.slice none 0 0) []:=abX w base _ 1
theorem fq.form(h:fq w base v xs)(h0:0<xs.length):∃g cap,v=.slice (some ⟨g,0,none⟩) xs.length cap/\base<=g/\g<w.heap.size/\xs.length<=cap:=by
 have h':=h
 rcases h.2 with⟨_,h1⟩|⟨g,cap,cur,rfl,hg,_,hle,_⟩
 ·omega
 ·exact⟨g,cap,rfl,hg,(h'.lt g rfl).2,hle⟩
theorem fq.sM{A:Option Addr}{n:Nat}(h:fq w base (.slice A n cap) xs):n=xs.length:=by
 rcases h.2 with⟨h1,h2⟩|⟨g,c,cur,h1,_⟩
 ·injection h1 with _ h3;omega
 ·injection h1
theorem fq.cell{n:Nat}(h:fq w base (.slice (some ⟨g,0,none⟩) n cap) xs){i:Nat}(hi:i<xs.length):w.cell? ⟨g,i,none⟩=some (.int .i64 (gi xs i)):=by
 obtain rfl:=h.sM
 rw[World.ownsRow.cellAt h i (by omega),List.getElem?_map,acd hi];rfl
theorem fq.free{n:Nat}(h:fq w base (.slice (some ⟨g,0,none⟩) n cap) xs)(i:Nat):w.frozen? ⟨g,i,none⟩=false:=by
 obtain rfl:=h.sM
 exact World.ownsRow.frozenAt h i
theorem fq.ad4{n:Nat}(h:fq w base (.slice (some ⟨g,0,none⟩) n cap) xs)(i:Nat)(y:Int):
  fq (w.setCell ⟨g,i,none⟩ (.int .i64 y)) base (.slice (some ⟨g,0,none⟩) n cap) (xs.set i y):=by
 obtain rfl:=h.sM
 unfold fq
 rw[List.length_set,List.map_set]
 exact(World.ownsRow.stored h i (iv y)).1
theorem fq.kp(h:fq w base v xs)(hk:Kp w w'):fq w' base v xs:=acL h hk
theorem fq.lt(h:fq w base v xs):∀k,v.ownBlock=some k->base<=k/\k<w.heap.size:=World.ownsRow.lt h
end
theorem al6:Bv Tryz.prog 53 3 1 8 (.int .i64 0):=⟨dY,by kernel_rfl,rfl,by omega,by omega⟩
theorem alo(xs:List Int)(i j:Nat)(y:Int)(h:i<xs.length):gi (xs.set i y) j=if i=j then y else gi xs j:=by
 unfold gi
 rw[List.getD_eq_getElem?_getD,List.getD_eq_getElem?_getD,List.getElem?_set]
 by_cases hij:i=j
 ·subst hij;simp[h]
 ·simp[hij]
theorem acT{xs ys:List Int}(hl:xs.length=ys.length)(h:∀i,i<xs.length->gi xs i=gi ys i):xs=ys:=by
 apply List.ext_getElem hl
 intro i h1 h2
 have:=h i h1
 rwa [Iz h1,Iz h2]at this
theorem F6{a b:World}{g:Nat}(h:Gr a b (some g))(i:Nat)(u:Value):Gr a (b.setCell ⟨g,i,none⟩ u) (some g):=
 ⟨h.os,h.tape,h.output,by simpa[World.setCell]using h.size,fun k hk hn=>(Below.heap_setCell b ⟨g,i,none⟩ u k (fun e=>hn (by rw[e]))).trans (h.block k hk hn)⟩
theorem Kp.own{a b c:World}{base:Nat}{e:TypeId}{k n:Nat}{v:Value}{xs:List Value}(h:Kp a b)(ho:b.ownsRow base e k v n xs)(hg:Gr b c v.ownBlock)(hb:a.heap.size<=base):Kp a c:=
 h.grown hg fun g hg'=>Nat.le_trans hb (ho.lt g hg').1
theorem akp{w:World}{g i:Nat}{u:Value}(h:w.cell? ⟨g,i,none⟩=some u):g<w.heap.size:=World.block_lt_of_cell? w ⟨g,i,none⟩ h
theorem Kp.c{a b:World}(h:Kp a b){g i:Nat}{u:Value}(hc:a.cell? ⟨g,i,none⟩=some u):b.cell? ⟨g,i,none⟩=some u:=(h.below.cell (p:=⟨g,i,none⟩) (akp hc)).trans hc
theorem Kp.fz{a b:World}(h:Kp a b){g i:Nat}{f:Bool}(hg:g<a.heap.size)(hc:a.frozen? ⟨g,i,none⟩=f):b.frozen? ⟨g,i,none⟩=f:=(h.below.frozen (p:=⟨g,i,none⟩) hg).trans hc
theorem Kp.al{a b:World}{o:Obj}(h:Kp (a.alloc o) b):Kp a b:=((Kp.refl a).alloc o).trans h
theorem Kp.lt{a b:World}(h:Kp a b){g:Nat}(hg:g<a.heap.size):g<b.heap.size:=Nat.lt_of_lt_of_le hg h.size
theorem Kp.cf{a b:World}(h:Kp a b){n:Nat}(hn:a.heap.size=n):(∀g i,g<n->b.cell? ⟨g,i,none⟩=a.cell? ⟨g,i,none⟩)/\(∀g i,g<n->b.frozen? ⟨g,i,none⟩=a.frozen? ⟨g,i,none⟩):=by
 subst hn
 exact⟨fun g i hg=>h.below.cell (p:=⟨g,i,none⟩) hg,fun g i hg=>h.below.frozen (p:=⟨g,i,none⟩) hg⟩
end Go.Proofs.YthppkofceancjaaGreat
namespace Go.Proofs.YthppkofceancjaaGreat
open Go.ChangeShapes Go.WideShapes Go.ChangeAt Go.RowKit
structure kK(α:Type) where
 f:α->List Value
 k:Nat
 u8:Nat
 hf:∀x,(f x).length=k
def Rd{α:Type}(C:kK α)(w:World)(B:Nat)(A:Option Addr)(xs:List α):Prop:=Sl w B C.k C.u8 A xs.length (xs.flatMap C.f)
def Rv{α:Type}(C:kK α)(w:World)(B:Nat)(v:Value)(xs:List α):Prop:=∃A c,v=.slice A xs.length c/\xs.length<=c/\Rd C w B A xs
def Ow{α:Type}(C:kK α)(E:TypeId)(w:World)(base:Nat)(v:Value)(xs:List α):Prop:=w.ownsRow base E C.k v xs.length (xs.flatMap C.f)
section
variable {α : Type} {C : kK α} {w w' : World} {B B' : Nat} {A : Option Addr} {v : Value} {xs : List α} {E : TypeId} {base : Nat}
theorem Rd.mono(h:Rd C w B A xs)(hB:B<=B'):Rd C w B' A xs:=Sl.mono h hB
theorem Rd.below(h:Rd C w B A xs)(hb:Below B w w'):Rd C w' B A xs:=Sl.below h hb
theorem Rd.kp(h:Rd C w w.heap.size A xs)(k:Kp w w'):Rd C w' w'.heap.size A xs:=(h.below k.below).mono k.size
theorem Rd.room(h:Rd C w B A xs):xs.length*C.u8<=140737488355328:=h.2.1
theorem Rd.eX:Rd C w B A []:=Sl.eX
theorem Rd.at_ [Inhabited α](h:Rd C w B A xs){i:Nat}(hi:i<xs.length):∃b off,A=some ⟨b,off,none⟩/\b<B/\∀j u,j<C.k->(C.f (ga xs i))[j]? =some u->w.cell? ⟨b,off+(i*C.k+j),none⟩=some u:=by
 obtain⟨b,off,e,hb,hc⟩:=Sl.at_ h (by omega)
 exact⟨b,off,e,hb,fun j u hj hu=>hc _ u (by rw[nB C.hf hi hj,<-eo hi];exact hu)⟩
theorem Rv.below(h:Rv C w B v xs)(hb:Below B w w'):Rv C w' B v xs:=by
 obtain⟨A,c,e,hc,h⟩:=h
 exact⟨A,c,e,hc,h.below hb⟩
theorem Ow.eX:Ow C E w base (.slice none 0 0) []:=abX w base E C.k
theorem Ow.kp(h:Ow C E w base v xs)(hk:Kp w w'):Ow C E w' base v xs:=acL h hk
theorem Ow.lt(h:Ow C E w base v xs):∀k,v.ownBlock=some k->base<=k/\k<w.heap.size:=World.ownsRow.lt h
theorem Ow.kept{row:Option Nat}(h:Ow C E w base v xs)(hg:Gr w w' row)(hne:v.ownBlock=none\/v.ownBlock≠row):Ow C E w' base v xs:=World.ownsRow.kept h hg hne
theorem Ow.sl(h:Ow C E w base v xs):∃A c,v=.slice A xs.length c/\xs.length<=c:=by
 rcases h.2 with⟨rfl,h1⟩|⟨g,cap,cur,rfl,hg,_,hle,_⟩
 ·exact⟨none,0,by rw[h1],by omega⟩
 ·exact⟨_,cap,rfl,hle⟩
theorem Ow.form(h:Ow C E w base v xs)(h0:0<xs.length):∃g cap,v=.slice (some ⟨g,0,none⟩) xs.length cap/\base<=g/\g<w.heap.size/\xs.length<=cap:=by
 have h':=h
 rcases h.2 with⟨_,h1⟩|⟨g,cap,cur,rfl,hg,_,hle,_⟩
 ·omega
 ·exact⟨g,cap,rfl,hg,(h'.lt g rfl).2,hle⟩
theorem Ow.sM{n c:Nat}(h:Ow C E w base (.slice A n c) xs):n=xs.length:=by
 rcases h.2 with⟨h1,h2⟩|⟨g,c,cur,h1,_⟩
 ·injection h1 with _ h3;omega
 ·injection h1
theorem Ow.cell [Inhabited α]{g n c:Nat}(h:Ow C E w base (.slice (some ⟨g,0,none⟩) n c) xs){i:Nat}(hi:i<xs.length){j:Nat}{u:Value}(hj:j<C.k)(hu:(C.f (ga xs i))[j]? =some u):w.cell? ⟨g,i*C.k+j,none⟩=some u:=by
 obtain rfl:=h.sM
 have hlt:i*C.k+j<xs.length*C.k:=by
  have:=Nat.mul_le_mul_right C.k (show i+1<=xs.length by omega)
  rw[Nat.succ_mul]at this
  omega
 rw[World.ownsRow.cellAt h _ hlt,nB C.hf hi hj,<-eo hi,hu]
theorem Ow.free{g n c:Nat}(h:Ow C E w base (.slice (some ⟨g,0,none⟩) n c) xs)(i:Nat):w.frozen? ⟨g,i,none⟩=false:=by
 obtain rfl:=h.sM
 exact World.ownsRow.frozenAt h i
end
structure Cr where
 a:Int
 b:Int
 c:Int
 d:Int
 plus:Bool
instance :Inhabited Cr:=⟨⟨0,0,0,0,false⟩⟩
def mM(x:Cr):List Value:=[.int .i64 x.a,.int .i64 x.b,.int .i64 x.c,.int .i64 x.d,.bool x.plus]
def ko:kK Cr:=⟨mM,5,40,fun _=>rfl⟩
def ye(x:Cr):Value:=.agg #[.int .i64 x.a,.int .i64 x.b,.int .i64 x.c,.int .i64 x.d,.bool x.plus]
theorem z6{w:World}{B:Nat}{A:Option Addr}{xs:List Cr}(h:Rd ko w B A xs){i:Nat}(hi:i<xs.length):∃b off,A=some ⟨b,off,none⟩/\b<B/\
  w.cell? ⟨b,off+i*5,none⟩=some (.int .i64 (ga xs i).a)/\w.cell? ⟨b,off+i*5+1,none⟩=some (.int .i64 (ga xs i).b)/\
  w.cell? ⟨b,off+i*5+2,none⟩=some (.int .i64 (ga xs i).c)/\w.cell? ⟨b,off+i*5+3,none⟩=some (.int .i64 (ga xs i).d)/\
  w.cell? ⟨b,off+i*5+4,none⟩=some (.bool (ga xs i).plus):=by
 obtain⟨b,off,e,hb,hc⟩:=h.at_ hi
 exact⟨b,off,e,hb,hc 0 _ (by decide) rfl,hc 1 _ (by decide) rfl,hc 2 _ (by decide) rfl,hc 3 _ (by decide) rfl,hc 4 _ (by decide) rfl⟩
structure Dg where
 ae:List Cr
 loops:Int
def lS(w:World)(B:Nat)(v:Value)(d:Dg):Prop:=∃A c,v=.agg #[.slice A d.ae.length c,.int .i64 d.loops]/\d.ae.length<=c/\Rd ko w B A d.ae
theorem xZ{b n:Nat}(h:b<n):b<n/\b<n+1/\b<n+2/\b<n+3/\b<n+4:=by omega
def bG(w:World)(g:Nat)(t:TypeId)(cs:Array Value):Prop:=w.heap[g]? =some (.cells cs t (0,0))
section
variable {w w' : World} {g : Nat} {t : TypeId} {cs : Array Value}
theorem bG.lt(h:bG w g t cs):g<w.heap.size:=by
 rcases Nat.lt_or_ge g w.heap.size with hlt|hge
 ·exact hlt
 ·unfold bG at h;rw[Array.getElem?_eq_none hge]at h;cases h
theorem bG.cell(h:bG w g t cs)(i:Nat){u:Value}(hu:cs[i]? =some u):w.cell? ⟨g,i,none⟩=some u:=by rw[cell_of_row w g i cs t (0,0) h,hu]
theorem bG.free(h:bG w g t cs)(i:Nat):w.frozen? ⟨g,i,none⟩=false:=frozen_of_row w g i cs t h
theorem bG.new(w:World)(t:TypeId)(cs:Array Value):bG (w.alloc (.cells cs t)) w.heap.size t cs:=heap_alloc_new w _
theorem bG.new'(w:World)(t:TypeId)(cs:Array Value){n:Nat}(hn:w.heap.size=n):bG (w.alloc (.cells cs t)) n t cs:=by subst hn;exact heap_alloc_new w _
theorem bG.drewN(h:bG w g t cs)(n:Nat):bG (w.drewN n) g t cs:=h
theorem bG.drew(h:bG w g t cs):bG w.drew g t cs:=h
theorem bG.alloc(h:bG w g t cs)(o:Obj):bG (w.alloc o) g t cs:=(Below.heap_alloc w o g h.lt).trans h
theorem bG.far(h:bG w g t cs){p:Addr}(hp:g≠p.block)(u:Value):bG (w.setCell p u) g t cs:=(Below.heap_setCell w p u g hp).trans h
theorem bG.kp(h:bG w g t cs)(hk:Kp w w'):bG w' g t cs:=(hk.block g h.lt).trans h
theorem bG.gr{row:Option Nat}(h:bG w g t cs)(hg:Gr w w' row)(hne:some g≠row):bG w' g t cs:=(hg.block g h.lt hne).trans h
end
theorem bG.two{w:World}{g:Nat}{t:TypeId}{x y:Value}(h:bG w g t #[x,y]):w.cell? ⟨g,0,none⟩=some x/\w.cell? ⟨g,1,none⟩=some y/\w.frozen? ⟨g,0,none⟩=false/\w.frozen? ⟨g,1,none⟩=false:=
 ⟨h.cell 0 rfl,h.cell 1 rfl,h.free 0,h.free 1⟩
theorem ab4{P:Program}{T E:TypeId}{k u8:Nat}{z:Value}(hT:Bv P T E k u8 z)(n:Nat)(x:Int)(hx:x=(n:Int))(hb:n*u8<=140737488355328)(w:World):
  (Instr.makeSlice T (.int .i64 x) (.int .i64 x)).run P w=.ok (.slice (some ⟨w.heap.size,0,none⟩) n n) (w.alloc (.cells (madeCells z.cells (n*k)) E)):=by
 subst hx
 obtain⟨ht,hinfo,hzs,hsz,h8⟩:=hT
 obtain⟨i,hi,hz,hsize,hby⟩:=info_parts hinfo
 have h1:n*1<=n*u8:=Nat.mul_le_mul_left n h8
 have hr:=run_make (P:=P) w T E i z ht hi hz .i64 .i64 (n:Int) (n:Int) (by omega) (by omega) (by
  rw[hby]
  have h:((u8*n:Nat):Int)<=140737488355328:=by rw[Nat.mul_comm];omega
  rw[Int.natCast_mul]at h
  omega) (by omega)
 rw[hsize]at hr
 simpa using hr
theorem ahA{α:Type}(C:kK α)(y:α)(z:Value)(hz:z.cells.toList=C.f y)(n:Nat):(madeCells z.cells (n*C.k)).toList=(List.replicate n y).flatMap C.f:=by
 have hk:z.cells.size=C.k:=by rw[<-C.hf y,<-hz];simp
 apply List.ext_getElem?
 intro m
 by_cases hm:m<n*C.k
 ·have vK:0<C.k:=by
   rcases Nat.eq_zero_or_pos C.k with h|h
   ·rw[h,Nat.mul_zero]at hm;omega
   ·exact h
  have hi:m/C.k<(List.replicate n y).length:=by rw[List.length_replicate];exact(Nat.div_lt_iff_lt_mul vK).2 hm
  have hj:m%C.k<C.k:=Nat.mod_lt _ vK
  have e:=nB C.hf hi hj
  rw[show m/C.k*C.k+m%C.k=m by rw[Nat.mul_comm];exact Nat.div_add_mod m C.k]at e
  rw[e,List.getElem_replicate,<-hz]
  simp only[madeCells,hk,Array.toList_map,Array.toList_range,List.getElem?_map,List.getElem?_range hm,Option.map_some]
  rw[Array.getElem!_eq_getD]
  simp[hk,hj]
 ·rw[List.getElem?_eq_none,List.getElem?_eq_none]
  ·rw[lh C.hf,List.length_replicate];omega
  ·simp[madeCells];omega
theorem Ow.akZ{α:Type}{C:kK α}{E:TypeId}{w:World}{g base:Nat}{cs:Array Value}{xs:List α}(h:bG w g E cs)(hcs:cs.toList=xs.flatMap C.f)(hb:base<=g)(hm:xs.length<=maxLen):
  Ow C E w base (.slice (some ⟨g,0,none⟩) xs.length xs.length) xs:=by
 have hl:=lh C.hf xs
 refine⟨hl,.inr ⟨g,xs.length,cs,rfl,hb,h,Nat.le_refl _,hm,by rw[<-hl,<-hcs];simp,?_⟩⟩
 rw[hcs,<-hl,List.take_length]
theorem Ow.made{α:Type}{C:kK α}{E:TypeId}{w:World}{g base n:Nat}{y:α}{z:Value}(hz:z.cells.toList=C.f y)(h:bG w g E (madeCells z.cells (n*C.k)))(hb:base<=g)(hm:n<=maxLen):
  Ow C E w base (.slice (some ⟨g,0,none⟩) n n) (List.replicate n y):=by
 have:=Ow.akZ (C:=C) (xs:=List.replicate n y) h (ahA C y z hz n) hb (by simpa using hm)
 simpa using this
def z7:kK Int:=⟨fun x=>[iv x],1,8,fun _=>rfl⟩
theorem acf(xs:List Int):xs.flatMap z7.f=xs.map iv:=by
 induction xs with
 |nil=>rfl
 |cons x xs ih=>rw[List.flatMap_cons,ih];rfl
theorem fq.adj{w:World}{base:Nat}{v:Value}{xs:List Int}(h:Ow z7 3 w base v xs):fq w base v xs:=by
 unfold fq
 rw[<-acf]
 exact h
theorem Kp.alt{w w1:World}{o:Obj}(h:Kp (w.alloc o) w1):w.heap.size<w1.heap.size:=by
 have:=h.size
 simp at this
 omega
theorem Ow.base{α:Type}{C:kK α}{E:TypeId}{w:World}{b b':Nat}{v:Value}{xs:List α}(h:Ow C E w b v xs)(hb:b'<=b):Ow C E w b' v xs:=by
 rcases h with⟨h1,h2|⟨g,cap,cur,r1,r2,r3⟩⟩
 ·exact⟨h1,.inl h2⟩
 ·exact⟨h1,.inr ⟨g,cap,cur,r1,by omega,r3⟩⟩
theorem Ow.kX{α β:Type}{C:kK α}{C':kK β}{E E':TypeId}{w:World}{b b':Nat}{v v':Value}{xs:List α}{ys:List β}(h:Ow C E w b v xs)(h':Ow C' E' w b' v' ys)(hne:E≠E'):v.ownBlock=none\/v.ownBlock≠v'.ownBlock:=by
 rcases h.2 with⟨rfl,_⟩|⟨g,cap,cur,rfl,_,hh,_⟩
 ·exact .inl rfl
 ·rcases h'.2 with⟨rfl,_⟩|⟨g',cap',cur',rfl,_,hh',_⟩
  ·exact .inr (by simp[Value.ownBlock])
  ·refine .inr fun e=>?_
   simp only[Value.ownBlock,Option.some.injEq]at e
   subst e
   rw[hh]at hh'
   injection hh' with h1
   injection h1 with _ h2
   exact hne h2
theorem Ow.CM{α:Type}{C:kK α}{E t:TypeId}{w:World}{b g:Nat}{v:Value}{xs:List α}{cs:Array Value}(h:Ow C E w b v xs)(h':bG w g t cs)(hne:E≠t):v.ownBlock=none\/v.ownBlock≠some g:=by
 rcases h.2 with⟨rfl,_⟩|⟨g',cap,cur,rfl,_,hh,_⟩
 ·exact .inl rfl
 ·refine .inr fun e=>?_
  simp only[Value.ownBlock,Option.some.injEq]at e
  subst e
  unfold bG at h'
  rw[hh]at h'
  injection h' with h1
  injection h1 with _ h2
  exact hne h2
theorem Ow.ad5{α:Type}[Inhabited α]{C:kK α}{E:TypeId}{w:World}{base g n c:Nat}{xs:List α}(h:Ow C E w base (.slice (some ⟨g,0,none⟩) n c) xs)(hk:C.k=2){i:Nat}(hi:i<xs.length)(u0 u1:Value)(y:α)(hy:C.f y=[u0,u1]):
  Ow C E ((w.setCell ⟨g,i*2,none⟩ u0).setCell ⟨g,i*2+1,none⟩ u1) base (.slice (some ⟨g,0,none⟩) n c) (xs.set i y):=by
 obtain rfl:=h.sM
 have hl:(C.f (ga xs i)).length=2:=by rw[C.hf,hk]
 have e1:=(World.ownsRow.stored h (i*2) u0).1
 have e2:=(World.ownsRow.stored e1 (i*2+1) u1).1
 unfold Ow
 rw[List.length_set]
 have hx:((xs.flatMap C.f).set (i*2) u0).set (i*2+1) u1=(xs.set i y).flatMap C.f:=by
  apply List.ext_getElem?
  intro m
  have hm2:m=m/2*2+m%2:=by omega
  by_cases hm:m<xs.length*2
  ·have rA:m/2<xs.length:=by omega
   have A8:m%2<C.k:=by omega
   have g1:=nB C.hf rA A8
   have g2:=nB (xs:=xs.set i y) C.hf (i:=m/2) (j:=m%2) (by rw[List.length_set];exact rA) A8
   rw[hk,<-hm2]at g1 g2
   rw[g2,List.getElem?_set,List.getElem?_set,List.length_set,lh C.hf,hk,g1]
   by_cases h1:i=m/2
   ·have e:(xs.set i y)[m/2]'(by rw[List.length_set];exact rA)=y:=by subst h1;simp
    rw[e,hy]
    rcases(show m%2=0\/m%2=1 by omega)with h2|h2
    ·rw[if_neg (by omega),if_pos (by omega),if_pos (by omega),h2];rfl
    ·rw[if_pos (by omega),if_pos (by omega),h2];rfl
   ·have e:(xs.set i y)[m/2]'(by rw[List.length_set];exact rA)=xs[m/2]:=by rw[List.getElem_set_ne (by omega)]
    rw[e,if_neg (by omega),if_neg (by omega)]
  ·rw[List.getElem?_eq_none (by rw[List.length_set,List.length_set,lh C.hf,hk];omega),List.getElem?_eq_none (by rw[lh C.hf,List.length_set,hk];omega)]
 rw[<-hx]
 exact e2
theorem aca{w:World}{g i j:Nat}(u v:Value):Gr w ((w.setCell ⟨g,i,none⟩ u).setCell ⟨g,j,none⟩ v) (some g):=F6 (F6 (GL w _) i u) j v
theorem acb{w:World}{g i:Nat}(u:Value):Gr w (w.setCell ⟨g,i,none⟩ u) (some g):=F6 (GL w _) i u
theorem bG.cr{w:World}{g:Nat}{t:TypeId}{a b c d e:Value}(h:bG w g t #[a,b,c,d,e]):w.cell? ⟨g,0,none⟩=some a/\w.cell? ⟨g,1,none⟩=some b/\w.cell? ⟨g,2,none⟩=some c/\w.cell? ⟨g,3,none⟩=some d/\w.cell? ⟨g,4,none⟩=some e:=
 ⟨h.cell 0 rfl,h.cell 1 rfl,h.cell 2 rfl,h.cell 3 rfl,h.cell 4 rfl⟩
theorem bG.four{w:World}{g:Nat}{t:TypeId}{a b c d:Value}(h:bG w g t #[a,b,c,d]):w.cell? ⟨g,0,none⟩=some a/\w.cell? ⟨g,1,none⟩=some b/\w.cell? ⟨g,2,none⟩=some c/\w.cell? ⟨g,3,none⟩=some d:=
 ⟨h.cell 0 rfl,h.cell 1 rfl,h.cell 2 rfl,h.cell 3 rfl⟩
end Go.Proofs.YthppkofceancjaaGreat
namespace Go.Proofs.YthppkofceancjaaGreat
open Go.ChangeShapes Go.WideShapes Go.ChangeAt Go.RowKit
def cK(x:Cr)(k:Nat):Int:=if k=0 then x.a else if k=1 then x.b else if k=2 then x.c else x.d
def jc(x:Cr)(k:Nat):Bool:=decide (k=0\/k=1/\x.plus=false\/k=3/\x.plus=true)
def Uq(d:Dg)(c k:Nat):Int:=cK (ga d.ae c) k
def Uz(d:Dg)(c k:Nat):Bool:=jc (ga d.ae c) k
def GU(n:Int)(w:World)(e:Ending)(w':World):Prop:=e=.returned (.int .i64 n)/\Kp w w'
def wS(b:Bool)(w:World)(e:Ending)(w':World):Prop:=e=.returned (.bool b)/\Kp w w'
set_option maxHeartbeats 1000000 in
theorem yh(v:Value)(d:Dg)(c k:Nat)(w:World)(hd:lS w w.heap.size v d)(hc:c<d.ae.length)(hk:k<4):
  Calls Tryz.prog 72 #[v,.agg #[.int .i64 c,.int .i64 k]] w (GU (Uq d c k) w):=by
 obtain⟨A,cap,rfl,hcap,hr⟩:=hd
 have hrm:=hr.room
 obtain⟨b,off,rfl,hb,c0,c1,c2,c3,c4⟩:=z6 hr hc
 have hkk:k=0\/k=1\/k=2\/k=3:=by omega
 obtain⟨l0,l1,l2,l3,l4⟩:=xZ hb
 clear hr
 rcases hkk with rfl|rfl|rfl|rfl
 all_goals
  go_enter Tryz.func72,Tryz.ntmps72
  go_wp2_with fail
  go_ret
  exact⟨rfl,(((Kp.refl _).alloc _).alloc _).alloc _⟩
set_option maxHeartbeats 2000000 in
theorem BO(v:Value)(d:Dg)(c k:Nat)(w:World)(hd:lS w w.heap.size v d)(hc:c<d.ae.length)(hk:k<4):
  Calls Tryz.prog 73 #[v,.agg #[.int .i64 c,.int .i64 k]] w (wS (Uz d c k) w):=by
 obtain⟨A,cap,rfl,hcap,hr⟩:=hd
 have hrm:=hr.room
 obtain⟨b,off,rfl,hb,c0,c1,c2,c3,c4⟩:=z6 hr hc
 obtain⟨l0,l1,l2,l3,l4⟩:=xZ hb
 have hkk:k=0\/k=1\/k=2\/k=3:=by omega
 clear hr c0 c1 c2 c3
 unfold Uz
 generalize ga d.ae c=x at*
 obtain⟨xa,xb,xc,xd,xp⟩:=x
 dsimp only at c4
 rcases hkk with rfl|rfl|rfl|rfl
 all_goals
  cases xp
  all_goals
   go_enter Tryz.func73,Tryz.ntmps73
   go_wp2_with fail
   go_ret
   exact⟨rfl,((Kp.refl _).alloc _).alloc _⟩
def fI(d:Dg)(a:Int)(back:Bool)(j:Nat):Bool:=decide (Uq d (j/4) (j%4)=a)&&(Uz d (j/4) (j%4)!=back)
def Ud(d:Dg)(a:Int)(back:Bool):Nat×Nat:=
 match(List.range (4*d.ae.length)).find? (fI d a back)with
 |some j=>(j/4,j%4)
 |none=>(0,0)
theorem Gh{d:Dg}{a:Int}{back:Bool}{j:Nat}(hj:j<4*d.ae.length)(h:fI d a back j=true)(h0:∀i,i<j->fI d a back i=false):Ud d a back=(j/4,j%4):=by
 have:(List.range (4*d.ae.length)).find? (fI d a back)=some j:=by
  rw[List.find?_range_eq_some]
  exact⟨h,by simpa using hj,fun i hi=>by simp[h0 i hi]⟩
 unfold Ud
 rw[this]
theorem aaz{d:Dg}{a:Int}{back:Bool}(h0:∀i,i<4*d.ae.length->fI d a back i=false):Ud d a back=(0,0):=by
 have:(List.range (4*d.ae.length)).find? (fI d a back)=none:=by
  rw[List.find?_eq_none]
  intro i hi
  simp[h0 i (by simpa using hi)]
 unfold Ud
 rw[this]
theorem rU{d:Dg}{a:Int}{back:Bool}{i k:Nat}(hk:k<4):fI d a back (4*i+k)=(decide (Uq d i k=a)&&(Uz d i k !=back)):=by
 unfold fI
 rw[show(4*i+k)/4=i by omega,show(4*i+k)%4=k by omega]
end Go.Proofs.YthppkofceancjaaGreat
namespace Go.Proofs.YthppkofceancjaaGreat
open Go.ChangeShapes Go.WideShapes Go.ChangeAt Go.RowKit
def aF:Cd Cr:=⟨mM,5,40,77,⟨0,0,0,0,false⟩,fun _=>rfl,by
 intro x u hu
 simp[mM]at hu
 rcases hu with rfl|rfl|rfl|rfl|rfl<;>rfl⟩
end Go.Proofs.YthppkofceancjaaGreat
namespace Go.Proofs.YthppkofceancjaaGreat
open Go.ChangeShapes Go.WideShapes Go.ChangeAt Go.RowKit
def akx(w:World)(e:Ending)(w':World):Prop:=e=.returned (.bool true)/\Kp w w'
set_option maxHeartbeats 2000000 in
theorem akR(u v:Value)(d:Dg)(w:World)(hu:lS w w.heap.size u d)(hv:lS w w.heap.size v d):
  Calls Tryz.prog 11 #[u,v] w (akx w):=by
 obtain⟨A,c,rfl,hc,ha⟩:=hu
 obtain⟨A',c',rfl,hc',ha'⟩:=hv
 have hr:d.ae.length*40<=140737488355328:=ha.room
 go_enter Tryz.func11,Tryz.ntmps11
 go_wp2_with fail
 go_loopw [5] (fun i wr=>∃k:Nat,k<=d.ae.length/\i=.int .i64 k/\Kp w wr/\bG wr w.heap.size 24 #[.slice A d.ae.length c,.int .i64 d.loops]/\bG wr (w.heap.size+1) 24 #[.slice A' d.ae.length c',.int .i64 d.loops]) (fun i _=>d.ae.length-(intOf i).toNat)
 case atStart=>exact⟨0,Nat.zero_le _,rfl,((Kp.refl _).alloc _).alloc _,(bG.new _ _ _).alloc _,bG.new' _ _ _ (by simp)⟩
 case round=>
  obtain⟨k,hk,rfl,hkp,hB,hB'⟩:=hrel
  obtain⟨e0,e1,e2,e3⟩:=hB.two
  obtain⟨f0,f1,f2,f3⟩:=hB'.two
  by_cases hlt:k<d.ae.length
  ·obtain⟨b,off,rfl,hb1,c0,c1,c2,c3,c4⟩:=z6 (ha.kp hkp) hlt
   obtain⟨b',off',rfl,hb2,c0',c1',yf,c3',c4'⟩:=z6 (ha'.kp hkp) hlt
   clear ha ha'
   go_wp2_with fail
   go_quiet (fail)
   go_wp2_with fail
   go_roundw
   case rel=>exact⟨k+1,by omega,by go_num,hkp.drewN _,hB.drewN _,hB'.drewN _⟩
   case measure=>simp[intOf]<;>omega
  ·go_wp2_with fail
   go_ret
   exact⟨rfl,hkp⟩
theorem aob:Bv Tryz.prog 22 77 5 40 (.agg #[.int .i64 0,.int .i64 0,.int .i64 0,.int .i64 0,.bool false]):=⟨bt,by kernel_rfl,rfl,by omega,by omega⟩
theorem aly(xs:List Cr):∀u∈xs.flatMap ko.f,u.oneCell'=true:=by
 intro u hu
 obtain⟨x,_,hx⟩:=List.mem_flatMap.1 hu
 simp[ko,mM]at hx
 rcases hx with rfl|rfl|rfl|rfl|rfl<;>rfl
end Go.Proofs.YthppkofceancjaaGreat
namespace Go.Proofs.YthppkofceancjaaGreat
open Go.ChangeShapes Go.WideShapes Go.ChangeAt Go.RowKit
def cP(d:Dg)(a:Int)(back:Bool)(j:Nat):Nat:=(List.range j).countP (fI d a back)
theorem rI(d:Dg)(a:Int)(back:Bool)(j:Nat):cP d a back (j+1)=cP d a back j+if fI d a back j=true then 1 else 0:=by
 unfold cP
 rw[List.range_succ,List.countP_append,List.countP_singleton]
theorem wH(d:Dg)(a:Int)(back:Bool)(j:Nat):cP d a back j<=j:=by
 unfold cP
 have:=List.countP_le_length (p:=fI d a back) (l:=List.range j)
 simpa using this
theorem acn{d:Dg}{a:Int}{back:Bool}{i k:Nat}(hk:k<4):
  cP d a back (4*i+(k+1))=cP d a back (4*i+k)+if Uq d i k=a/\Uz d i k≠back then 1 else 0:=by
 rw[<-Nat.add_assoc,rI,rU hk]
 simp
def kO(d:Dg)(a:Int):Bool:=cP d a false (4*d.ae.length)==1&&cP d a true (4*d.ae.length)==1
def gB(d:Dg):Bool:=decide (d.ae.length<=16/\0<=d.loops/\d.loops<=16/\¬(d.ae.length=0/\d.loops=0))&&(List.range (2*d.ae.length)).all fun a=>kO d ((a+1:Nat):Int)
theorem aaN{d:Dg}(h:¬(d.ae.length<=16/\0<=d.loops/\d.loops<=16/\¬(d.ae.length=0/\d.loops=0))):gB d=false:=by
 unfold gB;rw[decide_eq_false h];rfl
theorem abr{d:Dg}{a:Nat}(h0:1<=a)(h1:a<=2*d.ae.length)(h:kO d a=false):gB d=false:=by
 unfold gB
 rw[Bool.and_eq_false_iff]
 refine .inr (List.all_eq_false.2 ⟨a-1,by simp;omega,?_⟩)
 rw[show a-1+1=a by omega,h];simp
theorem ai3{d:Dg}(h:d.ae.length<=16/\0<=d.loops/\d.loops<=16/\¬(d.ae.length=0/\d.loops=0))(h2:∀a:Nat,1<=a->a<=2*d.ae.length->kO d a=true):gB d=true:=by
 unfold gB
 rw[decide_eq_true h,Bool.true_and]
 refine List.all_eq_true.2 fun a ha=>h2 (a+1) (by omega) ?_
 simp at ha
 omega
set_option maxHeartbeats 2000000 in
theorem ag3(v:Value)(d:Dg)(w:World)(hd:lS w w.heap.size v d)(h:¬(d.ae.length<=16/\0<=d.loops/\d.loops<=16/\¬(d.ae.length=0/\d.loops=0))):
  Calls Tryz.prog 31 #[v] w (wS false w):=by
 obtain⟨A,cap,rfl,hcap,hr⟩:=hd
 have hrm:d.ae.length*40<=140737488355328:=hr.room
 clear hr
 obtain⟨cs,loops⟩:=d
 dsimp only at*
 generalize cs.length=n at*
 by_cases h1:16<n
 ·go_enter Tryz.func31,Tryz.ntmps31
  go_wp2_with fail
  go_ret
  exact⟨rfl,(Kp.refl _).alloc _⟩
 ·by_cases h2:loops<0
  ·go_enter Tryz.func31,Tryz.ntmps31
   go_wp2_with fail
   go_ret
   exact⟨rfl,(Kp.refl _).alloc _⟩
  ·by_cases h3:16<loops
   ·go_enter Tryz.func31,Tryz.ntmps31
    go_wp2_with fail
    go_ret
    exact⟨rfl,(Kp.refl _).alloc _⟩
   ·obtain⟨rfl,rfl⟩:n=0/\loops=0:=by omega
    go_enter Tryz.func31,Tryz.ntmps31
    go_wp2_with fail
    go_ret
    exact⟨rfl,(Kp.refl _).alloc _⟩
set_option maxHeartbeats 4000000 in
theorem ag4(v:Value)(d:Dg)(w:World)(hd:lS w w.heap.size v d)(h:d.ae.length<=16/\0<=d.loops/\d.loops<=16/\¬(d.ae.length=0/\d.loops=0)):
  Calls Tryz.prog 31 #[v] w (wS (gB d) w):=by
 obtain⟨A,cap,rfl,hcap,hr⟩:=hd
 have hd:∀w',Kp w w'->lS w' w'.heap.size (.agg #[.slice A d.ae.length cap,.int .i64 d.loops]) d:=fun w' hk=>⟨A,cap,rfl,hcap,hr.kp hk⟩
 have HD:=Lib.hid hd
 clear hd hr
 have Hsz:=Lib.hid h
 obtain⟨h1,h2,h3,h4⟩:=h
 have hq:¬(d.ae.length=0/\d.loops=0)->(((d.ae.length:Int)==0:Bool)=false)\/((((d.ae.length:Int)==0):Bool)=true/\((d.loops==0):Bool)=false):=by
  intro h
  by_cases h0:d.ae.length=0
  ·exact .inr ⟨by rw[beq_iff_eq];omega,by rw[beq_eq_false_iff_ne];omega⟩
  ·exact .inl (by rw[beq_eq_false_iff_ne];omega)
 have hq':=hq h4
 clear hq h4
 go_enter Tryz.func31,Tryz.ntmps31
 go_upto_region 2 with(fail)
 go_cut [33] (fun c wx=>c=.bool false/\wx=w.alloc (.cells #[.slice A d.ae.length cap,.int .i64 d.loops] 24))
 case first=>
  rcases hq' with hq'|⟨hq',ayy⟩
  ·go_wp2_with fail
   go_meet
   case rel=>exact⟨congrArg Value.bool (by simp;omega),rfl⟩
  ·go_wp2_with fail
   go_meet
   case rel=>exact⟨congrArg Value.bool (by simp;omega),rfl⟩
 case rest=>
  obtain⟨rfl,rfl⟩:=hcut
  clear hq'
  go_wp2_with fail
  go_loopw [4] (fun i wr=>∃a:Nat,1<=a/\a<=2*d.ae.length+1/\i=.int .i64 a/\Hid (∀a':Nat,1<=a'->a'<a->kO d a'=true)/\Kp w wr/\
   bG wr w.heap.size 24 #[.slice A d.ae.length cap,.int .i64 d.loops]) (fun i _=>2*d.ae.length+1-(intOf i).toNat)
  case atStart=>exact⟨1,by omega,by omega,rfl,fun a h1 h2=>by omega,(Kp.refl _).alloc _,bG.new _ _ _⟩
  case round=>
   obtain⟨a,ha0,ha1,rfl,hok,hk,hB⟩:=hrel
   by_cases hlt:a<=2*d.ae.length
   ·obtain⟨wo,rfl⟩:∃wo:World,wo=wr:=⟨_,rfl⟩
    have ta:decide ((a:Int)<=2*(d.ae.length:Int))=true:=by simp;omega
    go_wp2_with fail
    go_loopw [5,6,7] (fun ci co i wr=>∃n:Nat,n<=d.ae.length/\i=.int .i64 n/\ci=.int .i64 (cP d a false (4*n))/\co=.int .i64 (cP d a true (4*n))/\Kp w wr/\
     bG wr w.heap.size 24 #[.slice A d.ae.length cap,.int .i64 d.loops]) (fun _ _ i _=>d.ae.length-(intOf i).toNat)
    case atStart=>exact⟨0,Nat.zero_le _,rfl,rfl,rfl,hk,hB⟩
    case round=>
     clear hk hB
     obtain⟨n,hn,rfl,rfl,rfl,hk,hB⟩:=hrel
     by_cases kS:n<d.ae.length
     ·clear wo
      obtain⟨wo,rfl⟩:∃wo:World,wo=wr:=⟨_,rfl⟩
      have cl1:=wH d a false (4*n)
      have vR:=wH d a true (4*n)
      go_wp2_with fail
      go_loopw [5,6,8] (fun ci co i wr=>∃m:Nat,m<=4/\i=.int .i64 m/\ci=.int .i64 (cP d a false (4*n+m))/\co=.int .i64 (cP d a true (4*n+m))/\Kp w wr/\
       bG wr w.heap.size 24 #[.slice A d.ae.length cap,.int .i64 d.loops]) (fun _ _ i _=>4-(intOf i).toNat)
      case atStart=>exact⟨0,Nat.zero_le _,rfl,rfl,rfl,hk,hB⟩
      case round=>
       clear hk hB cl1 vR
       obtain⟨m,hm,rfl,rfl,rfl,hk,hB⟩:=hrel
       obtain⟨e0,e1,e2,e3⟩:=hB.two
       obtain⟨s00,s01,s02,s03,s04⟩:=xZ hB.lt
       by_cases ju:m<4
       ·have c1:=acn (d:=d) (a:=a) (back:=false) (i:=n) ju
        have c2:=acn (d:=d) (a:=a) (back:=true) (i:=n) ju
        have cl1:=wH d a false (4*n+m)
        have vR:=wH d a true (4*n+m)
        by_cases ha:Uq d n m=(a:Int)
        ·have t1:((Uq d n m==(a:Int)):Bool)=true:=by rw[beq_iff_eq];exact ha
         have s4:4*n+m<64:=by omega
         cases he:Uz d n m
         ·rw[if_neg (by simp[he])]at c1
          rw[if_pos (by simp[ha,he])]at c2
          have c1':=Lib.hid c1
          have yf:=Lib.hid c2
          have he':=Lib.hid he
          clear c1 c2 ha he
          go_wp2_with fail
          refine(yh _ d n m _ (HD.out _ (hk.alloc _)) kS ju).mono ?_;rintro e w1 ⟨rfl,hk1⟩
          obtain⟨cc,cf⟩:=hk1.cf (n:=wr.heap.size+1) (by simp)
          go_wp2_with fail
          refine(BO _ d n m _ (HD.out _ ((hk.alloc _).trans hk1)) kS ju).mono ?_;rintro e w2 ⟨rfl,hk2⟩
          obtain⟨c2,f2⟩:=(hk1.trans hk2).cf (n:=wr.heap.size+1) (by simp)
          clear cc cf
          rw[he'.out]
          go_wp2_with fail
          refine(yh _ d n m _ (HD.out _ (((hk.alloc _).trans hk1).trans hk2)) kS ju).mono ?_;rintro e w3 ⟨rfl,hk3⟩
          obtain⟨c3,f3⟩:=((hk1.trans hk2).trans hk3).cf (n:=wr.heap.size+1) (by simp)
          clear c2 f2
          go_wp2_with fail
          refine(BO _ d n m _ (HD.out _ ((((hk.alloc _).trans hk1).trans hk2).trans hk3)) kS ju).mono ?_;rintro e w4 ⟨rfl,hk4⟩
          rw[he'.out]
          go_wp2_with fail
          go_roundw
          case rel=>exact⟨m+1,by omega,by go_num,by rw[c1'.out];rfl,by rw[yf.out];go_num,(((hk.alloc _).trans hk1).trans hk2).trans (hk3.trans hk4),(((hB.alloc _).kp hk1).kp hk2).kp (hk3.trans hk4)⟩
          case measure=>simp[intOf]<;>omega
         ·rw[if_pos (by simp[ha,he])]at c1
          rw[if_neg (by simp[he])]at c2
          have c1':=Lib.hid c1
          have yf:=Lib.hid c2
          have he':=Lib.hid he
          clear c1 c2 ha he
          go_wp2_with fail
          refine(yh _ d n m _ (HD.out _ (hk.alloc _)) kS ju).mono ?_;rintro e w1 ⟨rfl,hk1⟩
          obtain⟨cc,cf⟩:=hk1.cf (n:=wr.heap.size+1) (by simp)
          go_wp2_with fail
          refine(BO _ d n m _ (HD.out _ ((hk.alloc _).trans hk1)) kS ju).mono ?_;rintro e w2 ⟨rfl,hk2⟩
          obtain⟨c2,f2⟩:=(hk1.trans hk2).cf (n:=wr.heap.size+1) (by simp)
          clear cc cf
          rw[he'.out]
          go_wp2_with fail
          refine(yh _ d n m _ (HD.out _ (((hk.alloc _).trans hk1).trans hk2)) kS ju).mono ?_;rintro e w3 ⟨rfl,hk3⟩
          obtain⟨c3,f3⟩:=((hk1.trans hk2).trans hk3).cf (n:=wr.heap.size+1) (by simp)
          clear c2 f2
          go_wp2_with fail
          refine(BO _ d n m _ (HD.out _ ((((hk.alloc _).trans hk1).trans hk2).trans hk3)) kS ju).mono ?_;rintro e w4 ⟨rfl,hk4⟩
          rw[he'.out]
          go_wp2_with fail
          go_roundw
          case rel=>exact⟨m+1,by omega,by go_num,by rw[c1'.out];go_num,by rw[yf.out];rfl,(((hk.alloc _).trans hk1).trans hk2).trans (hk3.trans hk4),(((hB.alloc _).kp hk1).kp hk2).kp (hk3.trans hk4)⟩
          case measure=>simp[intOf]<;>omega
        ·have t1:((Uq d n m==(a:Int)):Bool)=false:=by rw[beq_eq_false_iff_ne];exact ha
         rw[if_neg (by simp[ha])]at c1 c2
         have c1':=Lib.hid c1
         have yf:=Lib.hid c2
         clear c1 c2 ha
         go_wp2_with fail
         refine(yh _ d n m _ (HD.out _ (hk.alloc _)) kS ju).mono ?_;rintro e w1 ⟨rfl,hk1⟩
         obtain⟨cc,cf⟩:=hk1.cf (n:=wr.heap.size+1) (by simp)
         go_wp2_with fail
         refine(yh _ d n m _ (HD.out _ ((hk.alloc _).trans hk1)) kS ju).mono ?_;rintro e w2 ⟨rfl,hk2⟩
         go_wp2_with fail
         go_roundw
         case rel=>exact⟨m+1,by omega,by go_num,by rw[c1'.out];rfl,by rw[yf.out];rfl,((hk.alloc _).trans hk1).trans hk2,((hB.alloc _).kp hk1).kp hk2⟩
         case measure=>simp[intOf]<;>omega
       ·obtain rfl:m=4:=by omega
        go_wp2_with fail
        go_roundw
        case rel=>exact⟨n+1,by omega,by go_num,rfl,rfl,hk,hB⟩
        case measure=>simp[intOf]<;>omega
     ·obtain rfl:n=d.ae.length:=by omega
      by_cases hin:cP d a false (4*d.ae.length)=1
      ·have i1:((((cP d a false (4*d.ae.length):Nat):Int)!=1):Bool)=false:=by simp only[bne_eq_false_iff_eq];omega
       by_cases hout:cP d a true (4*d.ae.length)=1
       ·have i2:((((cP d a true (4*d.ae.length):Nat):Int)!=1):Bool)=false:=by simp only[bne_eq_false_iff_eq];omega
        have hao:Hid (kO d a=true):=by rw[Hid];unfold kO;rw[hin,hout];rfl
        clear hin hout
        go_wp2_with fail
        go_roundw
        case rel=>exact⟨a+1,by omega,by omega,by go_num,fun a' h1 h2=>by
         rcases Nat.lt_or_ge a' a with h|h
         ·exact hok.out a' h1 h
         ·obtain rfl:a'=a:=by omega
          exact hao.out,hk,hB⟩
        case measure=>simp[intOf]<;>omega
       ·have i2:((((cP d a true (4*d.ae.length):Nat):Int)!=1):Bool)=true:=by simp only[bne_iff_ne,ne_eq];omega
        have hao:Hid (gB d=false):=abr ha0 hlt (by unfold kO;rw[hin];simp[hout])
        clear hin hout
        go_wp2_with fail
        go_ret
        exact⟨by rw[hao.out];rfl,hk⟩
      ·have i1:((((cP d a false (4*d.ae.length):Nat):Int)!=1):Bool)=true:=by simp only[bne_iff_ne,ne_eq];omega
       have hao:Hid (gB d=false):=abr ha0 hlt (by unfold kO;simp[hin])
       clear hin
       go_wp2_with fail
       go_ret
       exact⟨by rw[hao.out];rfl,hk⟩
   ·have hao:Hid (gB d=true):=ai3 Hsz.out fun a' h1 h2=>hok.out a' h1 (by omega)
    go_wp2_with fail
    go_ret
    exact⟨by rw[hao.out];rfl,hk⟩
theorem ag5(v:Value)(d:Dg)(w:World)(hd:lS w w.heap.size v d):Calls Tryz.prog 31 #[v] w (wS (gB d) w):=by
 by_cases h:d.ae.length<=16/\0<=d.loops/\d.loops<=16/\¬(d.ae.length=0/\d.loops=0)
 ·exact ag4 v d w hd h
 ·rw[aaN h];exact ag3 v d w hd h
end Go.Proofs.YthppkofceancjaaGreat
namespace Go.Proofs.YthppkofceancjaaGreat
open Go.ChangeShapes Go.WideShapes Go.ChangeAt Go.RowKit
def lastP(d:Dg)(a:Int)(back:Bool):Nat->Nat×Nat
 |0=>(0,0)
 |J+1=>if fI d a back J=true then(J/4,J%4)else lastP d a back J
theorem aik{d:Dg}{a:Int}{back:Bool}{J:Nat}(h:cP d a back J=0):∀j,j<J->fI d a back j=false:=by
 intro j hj
 unfold cP at h
 rw[List.countP_eq_zero]at h
 have:=h j (by simpa using hj)
 simpa using this
theorem Ck{d:Dg}{a:Int}{back:Bool}{J:Nat}(h:cP d a back J=1):
  ∃j,j<J/\fI d a back j=true/\(∀i,i<J->fI d a back i=true->i=j)/\lastP d a back J=(j/4,j%4):=by
 induction J with
 |zero=>simp[cP]at h
 |succ J ih=>
  rw[rI]at h
  by_cases hJ:fI d a back J=true
  ·rw[if_pos hJ]at h
   have h0:=aik (show cP d a back J=0 by omega)
   refine⟨J,by omega,hJ,fun i hi hi'=>?_,by unfold lastP;rw[if_pos hJ]⟩
   rcases Nat.lt_or_ge i J with h1|h1
   ·rw[h0 i h1]at hi';cases hi'
   ·omega
  ·rw[if_neg hJ]at h
   obtain⟨j,h1,h2,h3,h4⟩:=ih (by omega)
   refine⟨j,by omega,h2,fun i hi hi'=>?_,by unfold lastP;rw[if_neg hJ];exact h4⟩
   rcases Nat.lt_or_ge i J with h5|h5
   ·exact h3 i h5 hi'
   ·obtain rfl:i=J:=by omega
    exact absurd hi' hJ
theorem aaR{d:Dg}{a:Int}{back:Bool}(h:cP d a back (4*d.ae.length)=1):lastP d a back (4*d.ae.length)=Ud d a back:=by
 obtain⟨j,h1,h2,h3,h4⟩:=Ck h
 rw[h4,Gh h1 h2 fun i hi=>by
  cases hq:fI d a back i
  ·rfl
  ·have:=h3 i (by omega) hq
   omega]
def cv(d:Dg)(j:Nat):Int:=Uq d (j/4) (j%4)
def qu(d:Dg)(m J:Nat):Nat:=(List.range J).countP fun j=>decide (1<=cv d j/\cv d j<=(m:Int))
theorem ahG(d:Dg)(m J:Nat):qu d (m+1) J=qu d m J+(cP d ((m+1:Nat):Int) false J+cP d ((m+1:Nat):Int) true J):=by
 induction J with
 |zero=>simp[qu,cP]
 |succ J ih=>
  have e:∀m,qu d m (J+1)=qu d m J+if 1<=cv d J/\cv d J<=(m:Int)then 1 else 0:=by
   intro m
   unfold qu
   rw[List.range_succ,List.countP_append,List.countP_singleton]
   simp
  rw[e,e,ih,rI,rI]
  unfold fI
  change _+(if 1<=cv d J/\cv d J<=((m+1:Nat):Int)then 1 else 0)=_
  have h1:Uq d (J/4) (J%4)=cv d J:=rfl
  rw[h1]
  by_cases hm:cv d J=((m+1:Nat):Int)
  ·rw[if_pos (by omega),if_neg (by omega)]
   cases Uz d (J/4) (J%4)<;>simp[hm]<;>omega
  ·have e2:decide (cv d J=((m+1:Nat):Int))=false:=by simpa using hm
   rw[e2]
   simp only[Bool.false_and,Bool.false_eq_true,if_false]
   by_cases h2:1<=cv d J/\cv d J<=(m:Int)
   ·rw[if_pos (by omega),if_pos h2];omega
   ·rw[if_neg (by omega),if_neg h2];omega
theorem aid{d:Dg}{m:Nat}(h:∀a:Nat,1<=a->a<=m->cP d a false (4*d.ae.length)=1/\cP d a true (4*d.ae.length)=1):qu d m (4*d.ae.length)=2*m:=by
 induction m with
 |zero=>
  unfold qu
  rw[List.countP_eq_zero.2 (by intro j _;simp;omega)]
 |succ m ih=>
  rw[ahG,ih fun a h0 h1=>h a h0 (by omega)]
  have:=h (m+1) (by omega) (by omega)
  omega
def aN(d:Dg):Bool:=(List.range (2*d.ae.length)).all fun a=>kO d ((a+1:Nat):Int)
theorem aaO(d:Dg):gB d=(decide (d.ae.length<=16/\0<=d.loops/\d.loops<=16/\¬(d.ae.length=0/\d.loops=0))&&aN d):=rfl
theorem BS{d:Dg}(h:aN d=true)(a:Nat)(h0:1<=a)(h1:a<=2*d.ae.length):cP d a false (4*d.ae.length)=1/\cP d a true (4*d.ae.length)=1:=by
 have:=List.all_eq_true.1 h (a-1) (by simp;omega)
 rw[show a-1+1=a by omega]at this
 unfold kO at this
 simpa using this
theorem abE{d:Dg}{a:Nat}(h0:1<=a)(h1:a<=2*d.ae.length)(h:kO d a=false):aN d=false:=by
 refine List.all_eq_false.2 ⟨a-1,by simp;omega,?_⟩
 rw[show a-1+1=a by omega,h];simp
theorem aa6{d:Dg}(h2:∀a:Nat,1<=a->a<=2*d.ae.length->kO d a=true):aN d=true:=by
 refine List.all_eq_true.2 fun a ha=>h2 (a+1) (by omega) ?_
 simp at ha
 omega
theorem yQ{d:Dg}(h:aN d=true){j:Nat}(hj:j<4*d.ae.length):1<=cv d j/\cv d j<=2*(d.ae.length:Int):=by
 have h1:=aid (m:=2*d.ae.length) (BS h)
 unfold qu at h1
 have h2:(List.range (4*d.ae.length)).countP (fun j=>decide (1<=cv d j/\cv d j<=((2*d.ae.length:Nat):Int)))=(List.range (4*d.ae.length)).length:=by rw[h1];simp;omega
 rw[List.countP_eq_length]at h2
 have:=h2 j (by simpa using hj)
 rw[decide_eq_true_iff]at this
 omega
theorem abD{d:Dg}{j:Nat}(hj:j<4*d.ae.length)(h:¬(1<=cv d j/\cv d j<=2*(d.ae.length:Int))):aN d=false:=by
 cases hm:aN d
 ·rfl
 ·exact absurd (yQ hm hj) h
set_option maxRecDepth 100000 in
set_option maxHeartbeats 1000000 in
theorem CF(x:Cr)(k:Nat)(w:World)(hk:k<4):Calls Tryz.prog 115 #[ye x,.int .i64 k] w (GU (cK x k) w):=by
 have hkk:k=0\/k=1\/k=2\/k=3:=by omega
 unfold ye
 obtain⟨a,b,c,d,p⟩:=x
 have i0:∀w,(Instr.index 208 (.agg #[.int .i64 a,.int .i64 b,.int .i64 c,.int .i64 d]) (.int .i64 0)).run Tryz.prog w=.ok (.int .i64 a) w:=fun _=>by kernel_rfl
 have i1:∀w,(Instr.index 208 (.agg #[.int .i64 a,.int .i64 b,.int .i64 c,.int .i64 d]) (.int .i64 1)).run Tryz.prog w=.ok (.int .i64 b) w:=fun _=>by kernel_rfl
 have i2:∀w,(Instr.index 208 (.agg #[.int .i64 a,.int .i64 b,.int .i64 c,.int .i64 d]) (.int .i64 2)).run Tryz.prog w=.ok (.int .i64 c) w:=fun _=>by kernel_rfl
 have i3:∀w,(Instr.index 208 (.agg #[.int .i64 a,.int .i64 b,.int .i64 c,.int .i64 d]) (.int .i64 3)).run Tryz.prog w=.ok (.int .i64 d) w:=fun _=>by kernel_rfl
 rcases hkk with rfl|rfl|rfl|rfl
 all_goals
  go_enter Tryz.func115,Tryz.ntmps115
  go_wp2_with fail
  go_ret
  exact⟨rfl,(Kp.refl _).alloc _⟩
def rW(x:Cr):Nat:=if x.plus=true then 3 else 1
set_option maxHeartbeats 1000000 in
theorem ahz(x:Cr)(w:World):Calls Tryz.prog 170 #[ye x] w (GU (rW x) w):=by
 obtain⟨a,b,c,d,p⟩:=x
 unfold ye rW
 cases p
 all_goals
  go_enter Tryz.func170,Tryz.ntmps170
  go_wp2_with fail
  go_ret
  exact⟨rfl,(Kp.refl _).alloc _⟩
set_option maxHeartbeats 1000000 in
theorem aa0(x:Cr)(k:Nat)(w:World)(hk:k<4):Calls Tryz.prog 133 #[ye x,.int .i64 k] w (wS (jc x k) w):=by
 have hkk:k=0\/k=1\/k=2\/k=3:=by omega
 have ho:=Lib.hid fun w'=>ahz x w'
 obtain⟨a,b,c,d,p⟩:=x
 unfold ye rW at*
 rcases hkk with rfl|rfl|rfl|rfl
 ·go_enter Tryz.func133,Tryz.ntmps133
  go_wp2_with fail
  go_ret
  exact⟨rfl,(Kp.refl _).alloc _⟩
 all_goals
  cases p
  all_goals
   go_enter Tryz.func133,Tryz.ntmps133
   go_wp2_with fail
   refine(ho.out _).mono ?_;rintro e w1 ⟨rfl,hk1⟩
   go_wp2_with fail
   go_ret
   exact⟨rfl,Kp.trans ((Kp.refl _).alloc _) hk1⟩
end Go.Proofs.YthppkofceancjaaGreat
namespace Go.Proofs.YthppkofceancjaaGreat
open Go.ChangeShapes Go.WideShapes Go.ChangeAt Go.RowKit
def akD(base:Nat)(xs:List Cr)(w:World)(e:Ending)(w':World):Prop:=∃A c,e=.returned (.slice A xs.length c)/\Ow ko 77 w' base (.slice A xs.length c) xs/\Kp w w'
set_option maxHeartbeats 1000000 in
theorem ajl(A:Option Addr)(c:Nat)(xs:List Cr)(w:World)(hr:Rd ko w w.heap.size A xs):
  Calls Tryz.prog 132 #[.slice A xs.length c] w (akD w.heap.size xs w):=by
 have hnl:=fun(w:World) (a:Option Addr) (n c:Nat)=>Lib.run_eql_slice_nil (P:=Tryz.prog) w 22 77 a n c 0 0 bt
 cases A with
 |none=>
  have h0:xs.length=0:=by
   rcases Nat.eq_zero_or_pos xs.length with h|h
   ·exact h
   ·obtain⟨b,off,h,_⟩:=Sl.at_ hr h
    cases h
  have hx:xs=[]:=List.eq_nil_of_length_eq_zero h0
  subst hx
  go_enter Tryz.func132,Tryz.ntmps132
  go_wp2_with fail
  go_ret
  exact⟨none,0,rfl,Ow.eX,Kp.refl _⟩
 |some ad=>
  go_enter Tryz.func132,Tryz.ntmps132
  go_wp2_with (at_builtin;refine ahh aob rfl _ _ rfl (World.ownsRow_made w #[] 0 (Nat.le_refl _) (by unfold maxLen;omega) rfl) rfl rfl (Rd.kp hr ((Kp.refl _).alloc _)) (aly xs) (by rw[Nat.zero_add];exact hr.room) (by simp) ?_;intro v' w1 ho hg _)
  go_ret
  have ho':Ow ko 77 w1 w.heap.size v' xs:=by
   unfold Ow
   rw[Nat.zero_add,List.nil_append]at ho
   exact ho
  obtain⟨A',c',rfl,_⟩:=ho'.sl
  exact⟨A',c',rfl,ho',((Kp.refl w).alloc _).grown hg (fun k hk=>by simp[Value.ownBlock]at hk;omega)⟩
def o9(x:Nat×Nat):List Value:=[.int .i64 x.1,.int .i64 x.2]
def sB:kK (Nat×Nat):=⟨o9,2,16,fun _=>rfl⟩
def ax(d:Dg)(back:Bool)(J:Nat):List (Nat×Nat):=(List.range (2*d.ae.length+1)).map fun a:Nat=>lastP d (a:Int) back J
def fp(d:Dg)(back:Bool)(J:Nat):List Int:=(List.range (2*d.ae.length+1)).map fun a:Nat=>((cP d (a:Int) back J:Nat):Int)
theorem F4(d:Dg)(a:Int)(back:Bool)(J:Nat):lastP d a back (J+1)=if fI d a back J=true then(J/4,J%4)else lastP d a back J:=rfl
theorem gJ(d:Dg)(back:Bool)(J:Nat):(ax d back J).length=2*d.ae.length+1:=by simp[ax]
theorem oh(d:Dg)(back:Bool)(J:Nat):(fp d back J).length=2*d.ae.length+1:=by simp[fp]
theorem rH{d:Dg}{back:Bool}{J a:Nat}(h:a<2*d.ae.length+1):ga (ax d back J) a=lastP d (a:Int) back J:=by
 rw[eo (by rw[gJ];exact h)];simp[ax]
theorem og{d:Dg}{back:Bool}{J a:Nat}(h:a<2*d.ae.length+1):gi (fp d back J) a=(cP d (a:Int) back J:Nat):=by
 rw[Iz (by rw[oh];exact h)];simp[fp]
theorem aaF(d:Dg)(back:Bool):ax d back 0=List.replicate (2*d.ae.length+1) (0,0):=by
 simp only[ax,lastP,List.map_const',List.length_range]
theorem aa1(d:Dg)(back:Bool):fp d back 0=List.replicate (2*d.ae.length+1) 0:=by
 simp[fp,cP,List.map_const']
theorem abw{d:Dg}{a J:Nat}{back:Bool}(h:cv d J=a)(a':Nat):fI d (a':Int) back J=(decide (a'=a)&&(Uz d (J/4) (J%4)!=back)):=by
 unfold fI
 have h1:Uq d (J/4) (J%4)=(a:Int):=h
 rw[h1]
 congr 1
 simp only[decide_eq_decide]
 omega
theorem abh{d:Dg}{back:Bool}{J a:Nat}(h:cv d J=a)(he:Uz d (J/4) (J%4)≠back):ax d back (J+1)=(ax d back J).set a (J/4,J%4):=by
 apply zi
 ·rw[List.length_set,gJ,gJ]
 ·intro i hi
  rw[gJ]at hi
  have e:=abw (back:=back) h i
  by_cases ha:a<(ax d back J).length
  ·rw[eU _ _ _ _ ha,rH hi,rH hi,F4,e]
   by_cases hi':a=i
   ·subst hi';simp[he]
   ·have:¬i=a:=fun h=>hi' h.symm
    simp[hi',this]
  ·rw[List.set_eq_of_length_le (by omega),rH hi,rH hi]
   rw[gJ]at ha
   rw[F4,e]
   have:¬i=a:=by omega
   simp[this]
theorem aaG{d:Dg}{back:Bool}{J:Nat}(he:Uz d (J/4) (J%4)=back):ax d back (J+1)=ax d back J:=by
 apply zi
 ·rw[gJ,gJ]
 ·intro i hi
  rw[gJ]at hi
  rw[rH hi,rH hi,F4]
  unfold fI
  simp[he]
theorem abA{d:Dg}{back:Bool}{J a:Nat}(h:cv d J=a)(he:Uz d (J/4) (J%4)≠back):fp d back (J+1)=(fp d back J).set a (gi (fp d back J) a+1):=by
 apply acT
 ·rw[List.length_set,oh,oh]
 ·intro i hi
  rw[oh]at hi
  have e:=abw (back:=back) h i
  by_cases ha:a<(fp d back J).length
  ·rw[alo _ _ _ _ ha,og hi,og hi,rI,e]
   by_cases hi':a=i
   ·subst hi';rw[og hi];simp[he]
   ·have:¬i=a:=fun h=>hi' h.symm
    simp[hi',this]
  ·rw[List.set_eq_of_length_le (by omega),og hi,og hi,rI,e]
   rw[oh]at ha
   have:¬i=a:=by omega
   simp[this]
theorem aa2{d:Dg}{back:Bool}{J:Nat}(he:Uz d (J/4) (J%4)=back):fp d back (J+1)=fp d back J:=by
 apply acT
 ·rw[oh,oh]
 ·intro i hi
  rw[oh]at hi
  rw[og hi,og hi,rI]
  unfold fI
  simp[he]
end Go.Proofs.YthppkofceancjaaGreat
namespace Go.Proofs.YthppkofceancjaaGreat
open Go.ChangeShapes Go.WideShapes Go.ChangeAt Go.RowKit
theorem aoa:Bv Tryz.prog 68 190 2 16 (.agg #[.int .i64 0,.int .i64 0]):=⟨mX,by kernel_rfl,rfl,by omega,by omega⟩
def Sh(d:Dg)(w0 w:World)(p:Value)(ti tu:List (Nat×Nat)):Prop:=
 ∃g A c gi go,p=.pointer (some ⟨g,0,none⟩)/\
  bG w g 70 #[.slice A d.ae.length c,.int .i64 d.loops,.slice (some ⟨gi,0,none⟩) (2*d.ae.length+1) (2*d.ae.length+1),.slice (some ⟨go,0,none⟩) (2*d.ae.length+1) (2*d.ae.length+1)]/\
  gi≠go/\w0.heap.size<g/\
  Ow ko 77 w (w0.heap.size+1) (.slice A d.ae.length c) d.ae/\
  Ow sB 190 w (w0.heap.size+1) (.slice (some ⟨gi,0,none⟩) (2*d.ae.length+1) (2*d.ae.length+1)) ti/\
  Ow sB 190 w (w0.heap.size+1) (.slice (some ⟨go,0,none⟩) (2*d.ae.length+1) (2*d.ae.length+1)) tu
theorem Sh.kp{d:Dg}{w0 w w':World}{p:Value}{ti tu:List (Nat×Nat)}(h:Sh d w0 w p ti tu)(hk:Kp w w'):Sh d w0 w' p ti tu:=by
 obtain⟨g,A,c,gi,go,r1,r2,r3,r4,r5,r6,r7⟩:=h
 exact⟨g,A,c,gi,go,r1,r2.kp hk,r3,r4,r5.kp hk,r6.kp hk,r7.kp hk⟩
def Bs(d:Dg)(w0 w:World)(p ci co:Value)(J:Nat):Prop:=
 Sh d w0 w p (ax d false J) (ax d true J)/\∃ga gb,ci=.slice (some ⟨ga,0,none⟩) (2*d.ae.length+1) (2*d.ae.length+1)/\co=.slice (some ⟨gb,0,none⟩) (2*d.ae.length+1) (2*d.ae.length+1)/\ga≠gb/\
  fq w (w0.heap.size+1) (.slice (some ⟨ga,0,none⟩) (2*d.ae.length+1) (2*d.ae.length+1)) (fp d false J)/\fq w (w0.heap.size+1) (.slice (some ⟨gb,0,none⟩) (2*d.ae.length+1) (2*d.ae.length+1)) (fp d true J)
structure Bq(d:Dg)(b0 g:Nat)(A:Option Addr)(c gi go ga gb:Nat)(w:World)(J:Nat):Prop where
 sh:bG w g 70 #[.slice A d.ae.length c,.int .i64 d.loops,.slice (some ⟨gi,0,none⟩) (2*d.ae.length+1) (2*d.ae.length+1),.slice (some ⟨go,0,none⟩) (2*d.ae.length+1) (2*d.ae.length+1)]
 cr:Ow ko 77 w b0 (.slice A d.ae.length c) d.ae
 ti:Ow sB 190 w b0 (.slice (some ⟨gi,0,none⟩) (2*d.ae.length+1) (2*d.ae.length+1)) (ax d false J)
 tu:Ow sB 190 w b0 (.slice (some ⟨go,0,none⟩) (2*d.ae.length+1) (2*d.ae.length+1)) (ax d true J)
 ci:fq w b0 (.slice (some ⟨ga,0,none⟩) (2*d.ae.length+1) (2*d.ae.length+1)) (fp d false J)
 co:fq w b0 (.slice (some ⟨gb,0,none⟩) (2*d.ae.length+1) (2*d.ae.length+1)) (fp d true J)
 n1:gi≠go
 n2:ga≠gb
 lt:b0<=g
section
variable {d : Dg} {b0 g c gi go ga gb J : Nat} {A : Option Addr} {w w' : World}
theorem Bq.kp(h:Bq d b0 g A c gi go ga gb w J)(hk:Kp w w'):Bq d b0 g A c gi go ga gb w' J:=
 ⟨h.sh.kp hk,h.cr.kp hk,h.ti.kp hk,h.tu.kp hk,h.ci.kp hk,h.co.kp hk,h.n1,h.n2,h.lt⟩
theorem ld{w:World}{b:Nat}{v:Value}{xs:List Int}(h:fq w b v xs):Ow z7 3 w b v xs:=by
 unfold Ow
 rw[acf]
 exact h
theorem fq.kept{w w':World}{b:Nat}{v:Value}{xs:List Int}{row:Option Nat}(h:fq w b v xs)(hg:Gr w w' row)(hne:v.ownBlock=none\/v.ownBlock≠row):fq w' b v xs:=World.ownsRow.kept h hg hne
theorem rZ{w:World}{α:Type}{C:kK α}{E t:TypeId}{b g:Nat}{v:Value}{xs:List α}{cs:Array Value}(h:Ow C E w b v xs)(h':bG w g t cs)(hne:E≠t):some g≠v.ownBlock:=by
 rcases h.CM h' hne with h|h
 ·rw[h];simp
 ·exact fun e=>h e.symm
theorem Bq.amK(h:Bq d b0 g A c gi go ga gb w J){a:Nat}(ha:a<2*d.ae.length+1)(hj:cv d J=a)(he:Uz d (J/4) (J%4)=true):
  Bq d b0 g A c gi go ga gb (((w.setCell ⟨gi,a*2,none⟩ (.int .i64 ((J/4:Nat):Int))).setCell ⟨gi,a*2+1,none⟩ (.int .i64 ((J%4:Nat):Int))).setCell ⟨ga,a,none⟩ (.int .i64 (Go.Proofs.YthppkofceancjaaGreat.gi (fp d false J) a+1))) (J+1):=by
 have ht:ax d false (J+1)=(ax d false J).set a (J/4,J%4):=abh hj (by simp[he])
 have hu:ax d true (J+1)=ax d true J:=aaG he
 have hc:fp d false (J+1)=(fp d false J).set a (Go.Proofs.YthppkofceancjaaGreat.gi (fp d false J) a+1):=abA hj (by simp[he])
 have ho:fp d true (J+1)=fp d true J:=aa2 he
 have s1:=h.ti.ad5 rfl (i:=a) (by rw[gJ];exact ha) (.int .i64 ((J/4:Nat):Int)) (.int .i64 ((J%4:Nat):Int)) (J/4,J%4) rfl
 have g1:=aca (w:=w) (g:=gi) (i:=a*2) (j:=a*2+1) (.int .i64 ((J/4:Nat):Int)) (.int .i64 ((J%4:Nat):Int))
 have c1:=h.ci.kept g1 (ld h.ci|>.kX h.ti (by decide))
 have g2:=acb (w:=(w.setCell ⟨gi,a*2,none⟩ (.int .i64 ((J/4:Nat):Int))).setCell ⟨gi,a*2+1,none⟩ (.int .i64 ((J%4:Nat):Int))) (g:=ga) (i:=a) (.int .i64 (Go.Proofs.YthppkofceancjaaGreat.gi (fp d false J) a+1))
 have k1:=h.sh.gr g1 (rZ h.ti h.sh (by decide))
 have q1:=h.cr.kept g1 (h.cr.kX h.ti (by decide))
 have u1:=h.tu.kept g1 (.inr (by simpa[Value.ownBlock]using h.n1.symm))
 have o1:=h.co.kept g1 (ld h.co|>.kX h.ti (by decide))
 refine⟨k1.gr g2 (rZ (ld c1) k1 (by decide)),q1.kept g2 (q1.kX (ld c1) (by decide)),?_,?_,?_,?_,h.n1,h.n2,h.lt⟩
 ·rw[ht];exact s1.kept g2 (s1.kX (ld c1) (by decide))
 ·rw[hu];exact u1.kept g2 (u1.kX (ld c1) (by decide))
 ·rw[hc];exact c1.ad4 a _
 ·rw[ho];exact o1.kept g2 (.inr (by simpa[Value.ownBlock]using h.n2.symm))
theorem Bq.alk(h:Bq d b0 g A c gi go ga gb w J){a:Nat}(ha:a<2*d.ae.length+1)(hj:cv d J=a)(he:Uz d (J/4) (J%4)=false):
  Bq d b0 g A c gi go ga gb (((w.setCell ⟨go,a*2,none⟩ (.int .i64 ((J/4:Nat):Int))).setCell ⟨go,a*2+1,none⟩ (.int .i64 ((J%4:Nat):Int))).setCell ⟨gb,a,none⟩ (.int .i64 (Go.Proofs.YthppkofceancjaaGreat.gi (fp d true J) a+1))) (J+1):=by
 have ht:ax d true (J+1)=(ax d true J).set a (J/4,J%4):=abh hj (by simp[he])
 have hu:ax d false (J+1)=ax d false J:=aaG he
 have hc:fp d true (J+1)=(fp d true J).set a (Go.Proofs.YthppkofceancjaaGreat.gi (fp d true J) a+1):=abA hj (by simp[he])
 have ho:fp d false (J+1)=fp d false J:=aa2 he
 have s1:=h.tu.ad5 rfl (i:=a) (by rw[gJ];exact ha) (.int .i64 ((J/4:Nat):Int)) (.int .i64 ((J%4:Nat):Int)) (J/4,J%4) rfl
 have g1:=aca (w:=w) (g:=go) (i:=a*2) (j:=a*2+1) (.int .i64 ((J/4:Nat):Int)) (.int .i64 ((J%4:Nat):Int))
 have c1:=h.co.kept g1 (ld h.co|>.kX h.tu (by decide))
 have g2:=acb (w:=(w.setCell ⟨go,a*2,none⟩ (.int .i64 ((J/4:Nat):Int))).setCell ⟨go,a*2+1,none⟩ (.int .i64 ((J%4:Nat):Int))) (g:=gb) (i:=a) (.int .i64 (Go.Proofs.YthppkofceancjaaGreat.gi (fp d true J) a+1))
 have k1:=h.sh.gr g1 (rZ h.tu h.sh (by decide))
 have q1:=h.cr.kept g1 (h.cr.kX h.tu (by decide))
 have u1:=h.ti.kept g1 (.inr (by simpa[Value.ownBlock]using h.n1))
 have o1:=h.ci.kept g1 (ld h.ci|>.kX h.tu (by decide))
 refine⟨k1.gr g2 (rZ (ld c1) k1 (by decide)),q1.kept g2 (q1.kX (ld c1) (by decide)),?_,?_,?_,?_,h.n1,h.n2,h.lt⟩
 ·rw[hu];exact u1.kept g2 (u1.kX (ld c1) (by decide))
 ·rw[ht];exact s1.kept g2 (s1.kX (ld c1) (by decide))
 ·rw[ho];exact o1.kept g2 (.inr (by simpa[Value.ownBlock]using h.n2))
 ·rw[hc];exact c1.ad4 a _
theorem Bq.aoi(h:Bq d b0 g A c gi go ga gb w J){a:Nat}(ha:a<2*d.ae.length+1):∃x y X:Int,w.cell? ⟨gi,a*2,none⟩=some (.int .i64 x)/\w.cell? ⟨gi,a*2+1,none⟩=some (.int .i64 y)/\w.cell? ⟨ga,a,none⟩=some (.int .i64 X)/\
  w.frozen? ⟨gi,a*2,none⟩=false/\w.frozen? ⟨gi,a*2+1,none⟩=false/\w.frozen? ⟨ga,a,none⟩=false/\gi≠ga/\ga≠gi/\Hid (Go.Proofs.YthppkofceancjaaGreat.gi (fp d false J) a=X)/\0<=X/\X<=J:=by
 have hl:a<(ax d false J).length:=by rw[gJ];exact ha
 have hne:gi≠ga:=by
  rcases h.ti.kX (ld h.ci) (by decide)with h|h
  ·simp[Value.ownBlock]at h
  ·simpa[Value.ownBlock]using h
 have hx:=wH d a false J
 exact⟨_,_,_,h.ti.cell hl (j:=0) (by decide) rfl,h.ti.cell hl (j:=1) (by decide) rfl,h.ci.cell (by rw[oh];exact ha),h.ti.free _,h.ti.free _,h.ci.free _,hne,hne.symm,rfl,
  by rw[og ha];omega,by rw[og ha];omega⟩
theorem Bq.amc(h:Bq d b0 g A c gi go ga gb w J){a:Nat}(ha:a<2*d.ae.length+1):∃x y X:Int,w.cell? ⟨go,a*2,none⟩=some (.int .i64 x)/\w.cell? ⟨go,a*2+1,none⟩=some (.int .i64 y)/\w.cell? ⟨gb,a,none⟩=some (.int .i64 X)/\
  w.frozen? ⟨go,a*2,none⟩=false/\w.frozen? ⟨go,a*2+1,none⟩=false/\w.frozen? ⟨gb,a,none⟩=false/\go≠gb/\gb≠go/\Hid (Go.Proofs.YthppkofceancjaaGreat.gi (fp d true J) a=X)/\0<=X/\X<=J:=by
 have hl:a<(ax d true J).length:=by rw[gJ];exact ha
 have hne:go≠gb:=by
  rcases h.tu.kX (ld h.co) (by decide)with h|h
  ·simp[Value.ownBlock]at h
  ·simpa[Value.ownBlock]using h
 have hx:=wH d a true J
 exact⟨_,_,_,h.tu.cell hl (j:=0) (by decide) rfl,h.tu.cell hl (j:=1) (by decide) rfl,h.co.cell (by rw[oh];exact ha),h.tu.free _,h.tu.free _,h.co.free _,hne,hne.symm,rfl,
  by rw[og ha];omega,by rw[og ha];omega⟩
end
def EW(w:World)(b0:Nat)(v:Value)(d:Dg):Prop:=
 ∃g A c gi go,v=.pointer (some ⟨g,0,none⟩)/\b0<=g/\gi≠go/\
  bG w g 70 #[.slice A d.ae.length c,.int .i64 d.loops,.slice (some ⟨gi,0,none⟩) (2*d.ae.length+1) (2*d.ae.length+1),.slice (some ⟨go,0,none⟩) (2*d.ae.length+1) (2*d.ae.length+1)]/\
  Ow ko 77 w b0 (.slice A d.ae.length c) d.ae/\
  Ow sB 190 w b0 (.slice (some ⟨gi,0,none⟩) (2*d.ae.length+1) (2*d.ae.length+1)) (ax d false (4*d.ae.length))/\
  Ow sB 190 w b0 (.slice (some ⟨go,0,none⟩) (2*d.ae.length+1) (2*d.ae.length+1)) (ax d true (4*d.ae.length))
theorem Bq.aoh{d:Dg}{b0 g c gi go ga gb:Nat}{A:Option Addr}{w:World}(h:Bq d b0 g A c gi go ga gb w (4*d.ae.length)):EW w b0 (.pointer (some ⟨g,0,none⟩)) d:=
 ⟨g,A,c,gi,go,rfl,h.lt,h.n1,h.sh,h.cr,h.ti,h.tu⟩
def aju(w:World)(e:Ending)(w':World):Prop:=e=.returned (.tuple #[.pointer none,.bool false])/\Kp w w'
def alC(d:Dg)(w:World)(e:Ending)(w':World):Prop:=∃v,e=.returned (.tuple #[v,.bool true])/\Kp w w'/\EW w' w.heap.size v d
def aa7(b:Bool)(d:Dg)(w:World)(e:Ending)(w':World):Prop:=(b=false/\aju w e w')\/(b=true/\alC d w e w')
set_option maxRecDepth 100000 in
set_option maxHeartbeats 4000000 in
theorem aip(v:Value)(d:Dg)(w:World)(hd:lS w w.heap.size v d)(hn:d.ae.length<=16):
  Calls Tryz.prog 83 #[v] w (aa7 (aN d) d w):=by
 obtain⟨A,cap,rfl,hcap,hr⟩:=hd
 have hm:=fun W=>ab4 aoa (2*d.ae.length+1) (2*(d.ae.length:Int)+1) (by omega) (by omega) W
 have hm2:=fun W=>ab4 al6 (2*d.ae.length+1) (2*(d.ae.length:Int)+1) (by omega) (by omega) W
 generalize hZ:madeCells (Value.agg #[.int .i64 0,.int .i64 0]).cells ((2*d.ae.length+1)*2)=Z at*
 generalize hY:madeCells (Value.int .i64 0).cells ((2*d.ae.length+1)*1)=Y at*
 have HZ:=Lib.hid hZ
 have HY:=Lib.hid hY
 clear hZ hY
 go_enter Tryz.func83,Tryz.ntmps83
 have W0:IntKind.i64.wrap (2*(d.ae.length:Int))=2*(d.ae.length:Int):=IntWalk.i64_in _ (by omega)
 have W1:IntKind.i64.wrap (2*(d.ae.length:Int)+1)=2*(d.ae.length:Int)+1:=IntWalk.i64_in _ (by omega)
 have E0:Hid ((w.alloc (.cells #[.slice A d.ae.length cap,.int .i64 d.loops] 24)).cell? ⟨w.heap.size,0,none⟩=some (.slice A d.ae.length cap)):=(bG.new _ _ _).cell 0 rfl
 have E1:Hid ((w.alloc (.cells #[.slice A d.ae.length cap,.int .i64 d.loops] 24)).cell? ⟨w.heap.size,1,none⟩=some (.int .i64 d.loops)):=(bG.new _ _ _).cell 1 rfl
 go_upto_region 2 with(fail)
 go_cut [5] (fun p wx=>Kp (w.alloc (.cells #[.slice A d.ae.length cap,.int .i64 d.loops] 24)) wx/\Sh d w wx p (ax d false 0) (ax d true 0))
 case first=>
  go_region_held3 (fun W=>W.cell? ⟨w.heap.size,0,none⟩=some (.slice A d.ae.length cap)/\W.cell? ⟨w.heap.size,1,none⟩=some (.int .i64 d.loops)) (go_keep) (first
   |(go_at_call 132;refine(ajl A cap d.ae _ (hr.kp (by repeat(with_reducible (first|exact Kp.refl _|refine Kp.alloc ?_ _|refine Kp.drew ?_))))).mono ?_;rintro e w1 ⟨A1,c1,rfl,x4,hk1⟩;have hq:Kp (w.alloc (.cells #[.slice A d.ae.length cap,.int .i64 d.loops] 24)) w1:=Kp.trans (by repeat(with_reducible (first|exact Kp.refl _|refine Kp.alloc ?_ _|refine Kp.drew ?_))) hk1;have q0:=hq.c E0.out;have q1:=hq.c E1.out;obtain⟨l0,l1,l2,l3,l4⟩:=xZ hq.alt))
  all_goals
   have lk:=hk1.size
   simp at lk
   go_wp2_with fail
   go_meet
   refine⟨?_,_,A1,c1,_,_,rfl,bG.new' _ _ _ (by simp),?_,?_,?_,?_,?_⟩
   ·repeat(with_reducible (first|exact Kp.refl _|refine Kp.alloc ?_ _|refine Kp.drew ?_|refine Kp.trans ?_ hk1))
   ·omega
   ·omega
   ·refine(Ow.base (x4.kp ?_) (by simp));repeat(with_reducible (first|exact Kp.refl _|refine Kp.alloc ?_ _|refine Kp.drew ?_))
   ·rw[aaF]
    refine Ow.made (C:=sB) (z:=.agg #[.int .i64 0,.int .i64 0]) rfl ?_ (by first|omega|(simp;done)|(simp;omega)) (by unfold maxLen;omega)
    change bG _ _ _ (madeCells (Value.agg #[.int .i64 0,.int .i64 0]).cells ((2*d.ae.length+1)*2))
    rw[HZ.out]
    repeat(first|((with_reducible refine bG.new' _ _ _ ?_);(simp;done))|with_reducible refine bG.alloc ?_ _|with_reducible refine bG.drew ?_|with_reducible refine bG.kp ?_ hk1)
   ·rw[aaF]
    refine Ow.made (C:=sB) (z:=.agg #[.int .i64 0,.int .i64 0]) rfl ?_ (by first|omega|(simp;done)|(simp;omega)) (by unfold maxLen;omega)
    change bG _ _ _ (madeCells (Value.agg #[.int .i64 0,.int .i64 0]).cells ((2*d.ae.length+1)*2))
    rw[HZ.out]
    repeat(first|((with_reducible refine bG.new' _ _ _ ?_);(simp;done))|with_reducible refine bG.alloc ?_ _|with_reducible refine bG.drew ?_|with_reducible refine bG.kp ?_ hk1)
 case rest=>
  obtain⟨hkc,hS⟩:=hcut
  have hr':=Lib.hid hr
  clear hm hr E0 E1
  go_upto_region 3 with(fail)
  go_cut [6,7] (fun ci co wx=>Kp (w.alloc (.cells #[.slice A d.ae.length cap,.int .i64 d.loops] 24)) wx/\Bs d w wx u5 ci co 0)
  case first=>
   go_region
   all_goals
    have lk:=hkc.size
    simp at lk
    go_wp2_with fail
    go_meet
    refine⟨?_,?_,_,_,rfl,rfl,?_,?_,?_⟩
    ·repeat(with_reducible (first|exact Kp.refl _|refine Kp.alloc ?_ _|refine Kp.drew ?_|refine Kp.trans ?_ hkc))
    ·refine hS.kp ?_
     repeat(with_reducible (first|exact Kp.refl _|refine Kp.alloc ?_ _|refine Kp.drew ?_))
    ·omega
    ·rw[aa1]
     refine fq.adj (Ow.made (C:=z7) (z:=.int .i64 0) rfl ?_ (by first|omega|(simp;done)|(simp;omega)) (by unfold maxLen;omega))
     change bG _ _ _ (madeCells (Value.int .i64 0).cells ((2*d.ae.length+1)*1))
     rw[HY.out]
     repeat(first|((with_reducible refine bG.new' _ _ _ ?_);(simp;done))|with_reducible refine bG.alloc ?_ _|with_reducible refine bG.drew ?_)
    ·rw[aa1]
     refine fq.adj (Ow.made (C:=z7) (z:=.int .i64 0) rfl ?_ (by first|omega|(simp;done)|(simp;omega)) (by unfold maxLen;omega))
     change bG _ _ _ (madeCells (Value.int .i64 0).cells ((2*d.ae.length+1)*1))
     rw[HY.out]
     repeat(first|((with_reducible refine bG.new' _ _ _ ?_);(simp;done))|with_reducible refine bG.alloc ?_ _|with_reducible refine bG.drew ?_)
  case rest=>
   clear hkc hS hm2 W0 W1
   obtain⟨hkc,⟨g,A1,c1,gi,go,rfl,hb,n1,hl,o1,o2,o3⟩,ga,gb,rfl,rfl,n2,o4,o5⟩:=hcut
   have hQ:Bq d (w.heap.size+1) g A1 c1 gi go ga gb wc 0:=⟨hb,o1,o2,o3,o4,o5,n1,n2,by omega⟩
   clear hb n1 n2 o1 o2 o3 o4 o5
   have hkx:Kp w wc:=hkc.al
   have hx:=(bG.new w 24 #[.slice A d.ae.length cap,.int .i64 d.loops]).kp hkc
   obtain⟨e0,e1,e2,e3⟩:=hx.two
   clear HZ HY
   go_wp2_with fail
   go_loopw [43] (fun i wr=>∃n:Nat,n<=d.ae.length/\i=.int .i64 n/\Kp w wr/\Bq d (w.heap.size+1) g A1 c1 gi go ga gb wr (4*n)/\Hid (∀j,j<4*n->1<=cv d j/\cv d j<=2*(d.ae.length:Int))) (fun i _=>d.ae.length-(intOf i).toNat)
   case atStart=>exact⟨0,Nat.zero_le _,rfl,hkx,hQ,fun j hj=>by omega⟩
   case round=>
    clear hQ hkx e0 e1 e2 e3 hx hkc
    obtain⟨n,hn',rfl,hk,hQ,hrg⟩:=hrel
    by_cases hlt:n<d.ae.length
    ·obtain⟨b,off,rfl,hb1,k0,k1,k2,k3,k4⟩:=z6 (hr'.out.kp hk) hlt
     obtain⟨wo,rfl⟩:∃wo:World,wo=wr:=⟨_,rfl⟩
     obtain⟨l0,l1,l2,l3,l4⟩:=xZ hb1
     have hx:=bG.new wo 77 #[.int .i64 (Go.Proofs.YthppkofceancjaaGreat.ga d.ae n).a,.int .i64 (Go.Proofs.YthppkofceancjaaGreat.ga d.ae n).b,.int .i64 (Go.Proofs.YthppkofceancjaaGreat.ga d.ae n).c,.int .i64 (Go.Proofs.YthppkofceancjaaGreat.ga d.ae n).d,.bool (Go.Proofs.YthppkofceancjaaGreat.ga d.ae n).plus]
     have hx0:∀k,k<4->cv d (4*n+k)=cK (Go.Proofs.YthppkofceancjaaGreat.ga d.ae n) k/\Uz d ((4*n+k)/4) ((4*n+k)%4)=jc (Go.Proofs.YthppkofceancjaaGreat.ga d.ae n) k/\(4*n+k)/4=n/\(4*n+k)%4=k:=fun k hk=>by
      have h1:(4*n+k)/4=n:=by omega
      have h2:(4*n+k)%4=k:=by omega
      unfold cv Uq Uz
      rw[h1,h2]
      exact⟨rfl,rfl,rfl,rfl⟩
     have HX:=Lib.hid hx0
     clear hx0
     generalize Go.Proofs.YthppkofceancjaaGreat.ga d.ae n=x at*
     go_wp2_with fail
     go_loopw [48] (fun i wr=>∃m:Nat,m<=4/\i=.int .i64 m/\Kp w wr/\Bq d (w.heap.size+1) g A1 c1 gi go ga gb wr (4*n+m)/\Hid (∀j,j<4*n+m->1<=cv d j/\cv d j<=2*(d.ae.length:Int))/\
      bG wr wo.heap.size 77 #[.int .i64 x.a,.int .i64 x.b,.int .i64 x.c,.int .i64 x.d,.bool x.plus]) (fun i _=>4-(intOf i).toNat)
     case atStart=>exact⟨0,Nat.zero_le _,rfl,hk.alloc _,hQ.kp ((Kp.refl _).alloc _),hrg.out,hx⟩
     case round=>
      clear hQ hk hrg hx k0 k1 k2 k3 k4 l0 l1 l2 l3 l4 hb1
      obtain⟨m,hm,rfl,hk,hQ,hrg,hx⟩:=hrel
      by_cases ju:m<4
      ·obtain⟨k0,k1,k2,k3,k4⟩:=hx.cr
       obtain⟨l0,l1,l2,l3,l4⟩:=xZ hx.lt
       obtain⟨hj,hen,hq1,hq2⟩:=HX.out m ju
       by_cases hlo:1<=cK x m
       ·by_cases hhi:cK x m<=2*(d.ae.length:Int)
        ·obtain⟨a,ha⟩:=Int.eq_ofNat_of_zero_le (show 0<=cK x m by omega)
         rw[ha]at hlo hhi hj
         have ha':=Lib.hid ha
         clear ha
         cases he:jc x m
         ·rw[he]at hen
          have he':=Lib.hid he
          have hN:=fun w' (h:Bq d (w.heap.size+1) g A1 c1 gi go ga gb w' (4*n+m))=>h.alk (a:=a) (by omega) hj hen
          rw[hq1,hq2]at hN
          have HN:=Lib.hid hN
          have hj':=Lib.hid hj
          clear hN hj hen hq1 hq2 he
          go_wp2_with fail
          refine(CF x m _ ju).mono ?_;rintro e w1 ⟨rfl,hk1⟩
          rw[ha'.out]
          obtain⟨cc,cf⟩:=hk1.cf (n:=wr.heap.size) rfl
          go_wp2_with fail
          refine(aa0 x m _ ju).mono ?_;rintro e w2 ⟨rfl,hk2⟩
          rw[he'.out]
          clear cc cf
          have l7:=(hQ.kp hk1).kp hk2
          have hx2:=(hx.kp hk1).kp hk2
          have b1:wo.heap.size≠go:=fun e=>rZ l7.tu hx2 (by decide) (by rw[e];rfl)
          have b2:wo.heap.size≠gb:=fun e=>rZ (ld l7.co) hx2 (by decide) (by rw[e];rfl)
          have b3:=(l7.tu.lt go rfl).1
          have b4:=(l7.co.lt gb rfl).1
          obtain⟨s0,s1,s2,s3⟩:=l7.sh.four
          obtain⟨x0,y0,X,t0,t1,t2,t3,t4,t5,t6,t7,hX,X0,X1⟩:=l7.amc (a:=a) (by omega)
          go_wp2_with fail
          go_roundw
          case rel=>
           have hq:=HN.out w2 l7
           rw[hX.out]at hq
           exact⟨m+1,by omega,by go_num,((((hk.trans hk1).trans hk2).setCell (p:=⟨go,a*2,none⟩) (by simp;omega) _).setCell (p:=⟨go,a*2+1,none⟩) (by simp;omega) _).setCell (p:=⟨gb,a,none⟩) (by simp;omega) _,hq,
            fun j h=>by
             rcases Nat.lt_or_ge j (4*n+m)with h1|h1
             ·exact hrg.out j h1
             ·obtain rfl:j=4*n+m:=by omega
              rw[hj'.out];omega,
            ((hx2.far (p:=⟨go,a*2,none⟩) b1 _).far (p:=⟨go,a*2+1,none⟩) b1 _).far (p:=⟨gb,a,none⟩) b2 _⟩
          case measure=>simp[intOf]<;>omega
         ·rw[he]at hen
          have he':=Lib.hid he
          have hN:=fun w' (h:Bq d (w.heap.size+1) g A1 c1 gi go ga gb w' (4*n+m))=>h.amK (a:=a) (by omega) hj hen
          rw[hq1,hq2]at hN
          have HN:=Lib.hid hN
          have hj':=Lib.hid hj
          clear hN hj hen hq1 hq2 he
          go_wp2_with fail
          refine(CF x m _ ju).mono ?_;rintro e w1 ⟨rfl,hk1⟩
          rw[ha'.out]
          obtain⟨cc,cf⟩:=hk1.cf (n:=wr.heap.size) rfl
          go_wp2_with fail
          refine(aa0 x m _ ju).mono ?_;rintro e w2 ⟨rfl,hk2⟩
          rw[he'.out]
          clear cc cf
          have l7:=(hQ.kp hk1).kp hk2
          have hx2:=(hx.kp hk1).kp hk2
          have b1:wo.heap.size≠gi:=fun e=>rZ l7.ti hx2 (by decide) (by rw[e];rfl)
          have b2:wo.heap.size≠ga:=fun e=>rZ (ld l7.ci) hx2 (by decide) (by rw[e];rfl)
          have b3:=(l7.ti.lt gi rfl).1
          have b4:=(l7.ci.lt ga rfl).1
          obtain⟨s0,s1,s2,s3⟩:=l7.sh.four
          obtain⟨x0,y0,X,t0,t1,t2,t3,t4,t5,t6,t7,hX,X0,X1⟩:=l7.aoi (a:=a) (by omega)
          go_wp2_with fail
          go_roundw
          case rel=>
           have hq:=HN.out w2 l7
           rw[hX.out]at hq
           exact⟨m+1,by omega,by go_num,((((hk.trans hk1).trans hk2).setCell (p:=⟨gi,a*2,none⟩) (by simp;omega) _).setCell (p:=⟨gi,a*2+1,none⟩) (by simp;omega) _).setCell (p:=⟨ga,a,none⟩) (by simp;omega) _,hq,
            fun j h=>by
             rcases Nat.lt_or_ge j (4*n+m)with h1|h1
             ·exact hrg.out j h1
             ·obtain rfl:j=4*n+m:=by omega
              rw[hj'.out];omega,
            ((hx2.far (p:=⟨gi,a*2,none⟩) b1 _).far (p:=⟨gi,a*2+1,none⟩) b1 _).far (p:=⟨ga,a,none⟩) b2 _⟩
          case measure=>simp[intOf]<;>omega
        ·have hno:=Lib.hid (abD (d:=d) (j:=4*n+m) (by omega) (by rw[hj];omega))
         clear hj hen hq1 hq2
         go_wp2_with fail
         refine(CF x m _ ju).mono ?_;rintro e w1 ⟨rfl,hk1⟩
         go_wp2_with fail
         go_ret2
         exact .inl ⟨hno.out,rfl,hk.trans hk1⟩
       ·have hno:=Lib.hid (abD (d:=d) (j:=4*n+m) (by omega) (by rw[hj];omega))
        clear hj hen hq1 hq2
        go_wp2_with fail
        refine(CF x m _ ju).mono ?_;rintro e w1 ⟨rfl,hk1⟩
        go_wp2_with fail
        go_ret2
        exact .inl ⟨hno.out,rfl,hk.trans hk1⟩
      ·obtain rfl:m=4:=by omega
       go_wp2_with fail
       go_roundw
       case rel=>exact⟨n+1,by omega,by go_num,hk,hQ,hrg.out⟩
       case measure=>simp[intOf]<;>omega
    ·obtain rfl:n=d.ae.length:=by omega
     go_wp2_with fail
     obtain⟨wo,rfl⟩:∃wo:World,wo=wr:=⟨_,rfl⟩
     go_loop [12] (fun i=>∃a:Nat,1<=a/\a<=2*d.ae.length+1/\i=.int .i64 a/\Hid (∀a':Nat,1<=a'->a'<a->kO d a'=true)) (fun i=>2*d.ae.length+1-(intOf i).toNat)
     case atStart=>exact⟨1,by omega,by omega,rfl,fun a h1 h2=>by omega⟩
     case round=>
      obtain⟨a,ha0,ha1,rfl,hok⟩:=hrel
      by_cases kS:a<=2*d.ae.length
      ·have ca:=hQ.ci.cell (i:=a) (by rw[oh];omega)
       have cb:=hQ.co.cell (i:=a) (by rw[oh];omega)
       rw[og (by omega)]at ca cb
       have hao:kO d a=(cP d a false (4*d.ae.length)==1&&cP d a true (4*d.ae.length)==1):=rfl
       generalize cP d a false (4*d.ae.length)=X at*
       generalize cP d a true (4*d.ae.length)=Y at*
       by_cases hX:X=1
       ·subst hX
        by_cases hY:Y=1
        ·subst hY
         have ao9:Hid (kO d a=true):=hao
         clear hao
         go_wp2_with fail
         go_round
         case rel=>exact⟨a+1,by omega,by omega,by go_num,fun a' h1 h2=>by
          rcases Nat.lt_or_ge a' a with h|h
          ·exact hok.out a' h1 h
          ·obtain rfl:a'=a:=by omega
           exact ao9.out⟩
         case measure=>simp[intOf]<;>omega
        ·have hno:=Lib.hid (abE ha0 kS (by rw[hao];simp[hY]))
         have t1:(((Y:Int)!=1):Bool)=true:=by simp only[bne_iff_ne,ne_eq];omega
         clear hao hY
         go_wp2_with fail
         go_ret2
         exact .inl ⟨hno.out,rfl,hk⟩
       ·have hno:=Lib.hid (abE ha0 kS (by rw[hao];simp[hX]))
        have t1:(((X:Int)!=1):Bool)=true:=by simp only[bne_iff_ne,ne_eq];omega
        clear hao hX
        go_wp2_with fail
        go_ret2
        exact .inl ⟨hno.out,rfl,hk⟩
      ·have aoj:=Lib.hid (aa6 (d:=d) fun a' h1 h2=>hok.out a' h1 (by omega))
       go_wp2_with fail
       go_ret2
       obtain⟨g',A',c',RX,go',r1,r2,r3⟩:=hQ.aoh
       exact .inr ⟨aoj.out,_,rfl,hk,g',A',c',RX,go',r1,by omega,r3.1,r3.2.1,r3.2.2.1.base (by omega),r3.2.2.2.1.base (by omega),r3.2.2.2.2.base (by omega)⟩
theorem ai1{n:Nat}{loops:Int}(h:¬(n<=16/\0<=loops/\loops<=16/\¬(n=0/\loops=0))):16<n\/(n<=16/\loops<0)\/(n<=16/\16<loops)\/(n=0/\loops=0):=by omega
set_option maxRecDepth 100000 in
set_option maxHeartbeats 2000000 in
theorem aj3(v:Value)(d:Dg)(w:World)(hd:lS w w.heap.size v d):Calls Tryz.prog 64 #[v] w (aa7 (gB d) d w):=by
 obtain⟨A,cap,rfl,hcap,hr⟩:=hd
 have hrm:d.ae.length*40<=140737488355328:=hr.room
 by_cases h:d.ae.length<=16/\0<=d.loops/\d.loops<=16/\¬(d.ae.length=0/\d.loops=0)
 ·have hm:gB d=aN d:=by rw[aaO,decide_eq_true h,Bool.true_and]
  rw[hm]
  clear hm
  obtain⟨h1,h2,h3,h4⟩:=h
  have hb:=Lib.hid fun w' (hk:Kp w w')=>aip (.agg #[.slice A d.ae.length cap,.int .i64 d.loops]) d w' ⟨A,cap,rfl,hcap,hr.kp hk⟩ h1
  have t1:((((d.ae.length:Int)+d.loops)==0):Bool)=false:=by rw[beq_eq_false_iff_ne];omega
  clear h4 hr
  generalize aN d=b at*
  go_enter Tryz.func64,Tryz.ntmps64
  go_wp2_with fail
  refine(hb.out _ ((Kp.refl _).alloc _)).mono ?_
  rintro e w1 (⟨hb0,rfl,hk⟩|⟨hb1,v,rfl,hk,hs⟩)
  ·have ao7:=Lib.hid hb0
   clear hb0
   go_wp2_with fail
   go_ret2
   exact .inl ⟨ao7.out,rfl,hk.al⟩
  ·have ao6:=Lib.hid hb1
   clear hb1
   go_wp2_with fail
   go_ret2
   obtain⟨g',A',c',RX,go',r1,r2,r3⟩:=hs
   simp at r2
   exact .inr ⟨ao6.out,v,rfl,hk.al,g',A',c',RX,go',r1,by omega,r3.1,r3.2.1,r3.2.2.1.base (by simp),r3.2.2.2.1.base (by simp),r3.2.2.2.2.base (by simp)⟩
 ·rw[aaN h]
  have hc:=ai1 h
  clear h hr
  obtain⟨cs,loops⟩:=d
  dsimp only at*
  generalize cs.length=n at*
  rcases hc with hc|⟨hc,hc'⟩|⟨hc,hc'⟩|⟨rfl,rfl⟩
  all_goals
   go_enter Tryz.func64,Tryz.ntmps64
   go_wp2_with fail
   go_ret2
   exact .inl ⟨rfl,rfl,(Kp.refl _).alloc _⟩
end Go.Proofs.YthppkofceancjaaGreat
namespace Go.Proofs.YthppkofceancjaaGreat
open Go.ChangeShapes Go.WideShapes Go.ChangeAt Go.RowKit
theorem Ow.rd{α:Type}{C:kK α}{E:TypeId}{w:World}{b n c:Nat}{A:Option Addr}{xs:List α}(h:Ow C E w b (.slice A n c) xs)(hr:xs.length*C.u8<=140737488355328):Rd C w w.heap.size A xs:=by
 obtain rfl:=h.sM
 exact Sl.G3 h hr
theorem EW.look{w:World}{b0:Nat}{v:Value}{d:Dg}(h:EW w b0 v d)(hn:d.ae.length<=16):∃g A c gi go,v=.pointer (some ⟨g,0,none⟩)/\g<w.heap.size/\gi<w.heap.size/\go<w.heap.size/\
  w.cell? ⟨g,0,none⟩=some (.slice A d.ae.length c)/\w.cell? ⟨g,1,none⟩=some (.int .i64 d.loops)/\
  w.cell? ⟨g,2,none⟩=some (.slice (some ⟨gi,0,none⟩) (2*d.ae.length+1) (2*d.ae.length+1))/\w.cell? ⟨g,3,none⟩=some (.slice (some ⟨go,0,none⟩) (2*d.ae.length+1) (2*d.ae.length+1))/\
  Rd ko w w.heap.size A d.ae/\
  Hid (∀a,a<2*d.ae.length+1->w.cell? ⟨gi,a*2,none⟩=some (.int .i64 (lastP d a false (4*d.ae.length)).1)/\w.cell? ⟨gi,a*2+1,none⟩=some (.int .i64 (lastP d a false (4*d.ae.length)).2))/\
  Hid (∀a,a<2*d.ae.length+1->w.cell? ⟨go,a*2,none⟩=some (.int .i64 (lastP d a true (4*d.ae.length)).1)/\w.cell? ⟨go,a*2+1,none⟩=some (.int .i64 (lastP d a true (4*d.ae.length)).2)):=by
 obtain⟨g,A,c,gi,go,rfl,r2,r3,r4,r5,r6,r7⟩:=h
 obtain⟨s0,s1,s2,s3⟩:=r4.four
 refine⟨g,A,c,gi,go,rfl,r4.lt,(r6.lt gi rfl).2,(r7.lt go rfl).2,s0,s1,s2,s3,r5.rd (by show d.ae.length*40<=_;omega),fun a ha=>?_,fun a ha=>?_⟩
 ·have h0:=r6.cell (i:=a) (by rw[gJ];exact ha) (j:=0) (by decide) rfl
  have h1:=r6.cell (i:=a) (by rw[gJ];exact ha) (j:=1) (by decide) rfl
  rw[rH ha]at h0 h1
  exact⟨h0,h1⟩
 ·have h0:=r7.cell (i:=a) (by rw[gJ];exact ha) (j:=0) (by decide) rfl
  have h1:=r7.cell (i:=a) (by rw[gJ];exact ha) (j:=1) (by decide) rfl
  rw[rH ha]at h0 h1
  exact⟨h0,h1⟩
theorem abx{d:Dg}(h:aN d=true){a:Nat}(h0:1<=a)(h1:a<=2*d.ae.length)(back:Bool):
  (Ud d a back).1<d.ae.length/\(Ud d a back).2<4/\lastP d a back (4*d.ae.length)=Ud d a back/\Uq d (Ud d a back).1 (Ud d a back).2=a/\Uz d (Ud d a back).1 (Ud d a back).2=!back:=by
 have hc:cP d a back (4*d.ae.length)=1:=by cases back<;>simp[BS h a h0 h1]
 obtain⟨j,j1,j2,j3,j4⟩:=Ck hc
 have e:=aaR hc
 rw[j4]at e
 rw[<-e]
 dsimp only
 unfold fI at j2
 rw[Bool.and_eq_true,decide_eq_true_iff]at j2
 refine⟨by omega,by omega,by rw[j4],j2.1,?_⟩
 have:=j2.2
 cases back<;>cases hq:Uz d (j/4) (j%4)<;>simp_all
end Go.Proofs.YthppkofceancjaaGreat
namespace Go.Proofs.YthppkofceancjaaGreat
open Go.ChangeShapes Go.WideShapes Go.ChangeAt Go.RowKit
def br:Cd (Nat×Nat):=⟨o9,2,16,190,(0,0),fun _=>rfl,by
 intro x u hu
 simp[o9]at hu
 rcases hu with rfl|rfl<;>rfl⟩
section
variable {w w' : World} {M : Hp} {X : Fr} {H H' : List Rs}
theorem Kp.like(h:Kp w w'):gX w w':=⟨h.os,h.tape,h.output,h.size⟩
theorem SH.old(S:SH w M X H)(h:Kp w w'):SH w' M X H:=S.kp h.like fun b hb=>h.block b hb
theorem SH.Dk{r:Rs}(S:SH w M X [])(S':SH w' M X H')(hr:r.ok (hp w'))(hb:∀b∈r.bl,w.heap.size<=b/\b<w'.heap.size)(DF:∀s∈H',∀b∈r.bl,b∉s.bl):SH w' M X (r::H'):=by
 have fresh:∀b,w.heap.size<=b->M b=none/\X.h b=none:=fun b hge=>by
  constructor
  ·cases hm:M b with
   |none=>rfl
   |some o=>have:=iz (S.m b o hm);omega
  ·cases hm:X.h b with
   |none=>rfl
   |some o=>have:=iz (S.x b o hm);omega
 refine⟨S'.m,S'.x,S'.mx,fun s hs=>?_,fun s hs b hbs=>?_,fun j k s t hjk hs ht b hbs=>?_,S'.like⟩
 ·rcases List.mem_cons.1 hs with rfl|hs
  ·exact hr
  ·exact S'.ok s hs
 ·rcases List.mem_cons.1 hs with rfl|hs
  ·exact⟨(hb b hbs).2,fresh b (hb b hbs).1⟩
  ·exact S'.bl s hs b hbs
 ·cases j with
  |zero=>
   cases k with
   |zero=>exact absurd rfl hjk
   |succ k=>
    simp only[List.getElem?_cons_zero,Option.some.injEq,List.getElem?_cons_succ]at hs ht
    subst hs
    exact DF t (List.mem_of_getElem? ht) b hbs
  |succ j=>
   cases k with
   |zero=>
    simp only[List.getElem?_cons_zero,Option.some.injEq,List.getElem?_cons_succ]at hs ht
    subst ht
    exact fun kY=>DF s (List.mem_of_getElem? hs) b kY hbs
   |succ k=>
    simp only[List.getElem?_cons_succ]at hs ht
    exact S'.ap j k s t (by omega) hs ht b hbs
theorem aG.dg{N:Hp}{A:Option Addr}{c:Nat}{d:Dg}(h:aG aF N A c d.ae)(hN:N.le (hp w)):lS w w.heap.size (.agg [.slice A d.ae.length c,.int .i64 d.loops].toArray) d:=by
 refine⟨A,c,rfl,h.1,⟨lh ko.hf _,h.2.1,fun h0=>?_⟩⟩
 have hlen:0<d.ae.length:=by simpa using h0
 obtain⟨e,cs,T,fz,hc,_⟩:=h.2.2 hlen
 refine⟨adB A,rF A,e,iz (hN _ _ hc),fun j u hu=>?_⟩
 exact h.cells hN j u hu
theorem aki{f:FuncId}{vs:List Value}{b:Bool}(S:SH w M X [])(h:Calls Tryz.prog f vs.toArray w (wS b w)):Cq Tryz.prog f vs w M X (fun u=>u=.bool b):=
 h.mono fun e w' ⟨he,hk⟩=>⟨_,he,S.old hk,rfl⟩
theorem aag(d:Dg){A:Option Addr}{c:Nat}(h:aG aF (M.un X.h) A c d.ae)(S:SH w M X []):Cq Tryz.prog 31 [.agg [.slice A d.ae.length c,.int .i64 d.loops].toArray] w M X (fun u=>u=.bool (gB d)):=
 aki S (ag5 _ d w (h.dg S.um))
theorem ag9(d:Dg){A B:Option Addr}{c e:Nat}(h:aG aF (M.un X.h) A c d.ae)(k:aG aF (M.un X.h) B e d.ae)(S:SH w M X []):Cq Tryz.prog 11 [.agg [.slice A d.ae.length c,.int .i64 d.loops].toArray,.agg [.slice B d.ae.length e,.int .i64 d.loops].toArray] w M X (fun u=>u=.bool true):=
 (akR _ _ d w (h.dg S.um) (k.dg S.um)).mono fun e w' ⟨he,hk⟩=>⟨_,he,S.old hk,rfl⟩
end
def ShV(d:Dg)(vi vo:Value):Prop:=∃gi go,vi=.slice (some ⟨gi,0,none⟩) (2*d.ae.length+1) (2*d.ae.length+1)/\vo=.slice (some ⟨go,0,none⟩) (2*d.ae.length+1) (2*d.ae.length+1)/\gi≠go
def awv(d:Dg)(v:Value)(N:List Rs):Prop:=
 (gB d=false/\v=.tuple [.pointer none,.bool false].toArray/\N=[])\/
 (gB d=true/\∃g vc vi vo,v=.tuple [.pointer (some ⟨g,0,none⟩),.bool true].toArray/\
  N=[Rs.box g 70 [vc,.int .i64 d.loops,vi,vo],Rs.row aF vc d.ae,Rs.row br vi (ax d false (4*d.ae.length)),Rs.row br vo (ax d true (4*d.ae.length))]/\ShV d vi vo)
theorem mN{α:Type}{C:Cd α}{v:Value}{xs:List α}{b:Nat}(h:b∈(Rs.row C v xs).bl):v.ownBlock=some b:=by simpa[Rs.row]using h
theorem anE {w : World} {M : Hp} {X : Fr} (d : Dg) {A : Option Addr} {c : Nat} (h : aG aF (M.un X.h) A c d.ae) (S : SH w M X []) : Co Tryz.prog 64 [.agg [.slice A d.ae.length c, .int .i64 d.loops].toArray] w M X (awv d) := by
  refine (aj3 _ d w (h.dg S.um)).mono ?_
  rintro e w' (⟨hm, rfl, hk⟩ | ⟨hm, v, rfl, hk, g, B, cp, gi, go, rfl, hg, hne, hb, hc, hi, ho⟩)
  · exact ⟨_, rfl, [], S.old hk, .inl ⟨hm, rfl, rfl⟩⟩
  · have hci := hc.kX hi (by decide)
    have hco := hc.kX ho (by decide)
    have hcb := hc.CM hb (by decide)
    have hib := hi.CM hb (by decide)
    have hob := ho.CM hb (by decide)
    have S0 := S.old hk
    have S1 : SH w' M X [Rs.row br (.slice (some ⟨go, 0, none⟩) (2 * d.ae.length + 1) (2 * d.ae.length + 1)) (ax d true (4 * d.ae.length))] :=
      S.Dk S0 (iT.Cy (C := br) (ho.base (Nat.zero_le _))) (fun b hb => ho.lt b (mN hb)) (by simp)
    have S2 := S.Dk S1 (r := Rs.row br (.slice (some ⟨gi, 0, none⟩) (2 * d.ae.length + 1) (2 * d.ae.length + 1)) (ax d false (4 * d.ae.length)))
      (iT.Cy (C := br) (hi.base (Nat.zero_le _))) (fun b hb => hi.lt b (mN hb)) (fun s hs b hb hbs => by
        rw [List.mem_singleton] at hs
        subst hs
        have h1 := mN hb
        have h2 := mN hbs
        simp only [Value.ownBlock, Option.some.injEq] at h1 h2
        omega)
    have S3 := S.Dk S2 (r := Rs.row aF (.slice B d.ae.length cp) d.ae) (iT.Cy (C := aF) (hc.base (Nat.zero_le _))) (fun b hb => hc.lt b (mN hb)) (fun s hs b hb hbs => by
        have h1 := mN hb
        rcases List.mem_cons.1 hs with rfl | hs
        · rcases hci with h | h
          · rw [h] at h1; cases h1
          · exact h (h1.trans (mN hbs).symm)
        · rw [List.mem_singleton] at hs
          subst hs
          rcases hco with h | h
          · rw [h] at h1; cases h1
          · exact h (h1.trans (mN hbs).symm))
    have S4 := S.Dk S3 (r := Rs.box g 70 [.slice B d.ae.length cp, .int .i64 d.loops, .slice (some ⟨gi, 0, none⟩) (2 * d.ae.length + 1) (2 * d.ae.length + 1), .slice (some ⟨go, 0, none⟩) (2 * d.ae.length + 1) (2 * d.ae.length + 1)])
      hb (fun b hb' => by simp [Rs.box] at hb'; subst hb'; exact ⟨hg, hb.lt⟩) (fun s hs b hb' hbs => by
        simp [Rs.box] at hb'
        subst hb'
        rcases List.mem_cons.1 hs with rfl | hs
        · rcases hcb with h | h
          · have := mN hbs; rw [h] at this; cases this
          · exact h (mN hbs)
        · rcases List.mem_cons.1 hs with rfl | hs
          · rcases hib with h | h
            · have := mN hbs; rw [h] at this; cases this
            · exact h (mN hbs)
          · rw [List.mem_singleton] at hs
            subst hs
            rcases hob with h | h
            · have := mN hbs; rw [h] at this; cases this
            · exact h (mN hbs))
    exact ⟨_, rfl, _, S4, .inr ⟨hm, g, _, _, _, rfl, rfl, gi, go, rfl, rfl, hne⟩⟩
end Go.Proofs.YthppkofceancjaaGreat
namespace Go.Proofs.YthppkofceancjaaGreat
open Go.ChangeShapes Go.WideShapes Go.ChangeAt Go.RowKit
section
variable {P : Program} {o : Oper} {L : List (Nat × Value)} {w w' : World} {x y z : Operand} {t t' T E : TypeId} {a b : Int} {v u : Value} {n d : Nat} {Kt : List (Nat × Value) → World → Prop} {M M' : Hp} {X : Fr} {H H' : List Rs} {i g off : Nat} {l : List Value}
theorem vZ{f:FuncId}{ys:List Operand}{vs:List Value}{fa ca:Array Operand}(hop:o.op=.makeFunc (.func f) fa ca)(hf:fa=#[])(hc:ca=ys.toArray)(hv:oevs L ys=some vs):Run P o L w (.func (.func f) #[] vs.toArray) w:=by
 intro n c he
 unfold execOp
 subst hf
 simp only[hop,hc,List.map_toArray,he.lF hv,Instr.makeFunc,Sem.run_bind,Sem.run_pure,Result.andThen_ok]
 rfl
theorem akH{f:FuncId}{vs cap:List Value}{ca:Call}{fo:Operand}{xs:List Operand}(hd:o.dst=some d)(hop:o.op=.call ca)(cJ:ca.callee=.value fo)(hfo:oev L fo=some (.func (.func f) #[] cap.toArray))
  (hxs:ca.args=xs.toArray)(hvs:oevs L xs=some vs)(hn:Nat.blt d n=true)(hen:∀args w,(callFunc f args).run P w=.ok (.enter f args) w)(S:SH w M X H)
  {R:Value->Prop}(hcall:Cq P f (vs++cap) w M (XH w X H) R)(h:∀v w',SH w' M X H->R v->Kt ((d,v)::L) w'):WO P n o L w Kt:=by
 intro a ha next Q hk
 have hr:(execOp a.eval o).run P w=.ok (.enter f (vs++cap).toArray) w:=by
  unfold execOp
  simp only[hop,resolve,cJ,ha.eval hfo,hxs,List.map_toArray,ha.lF hvs,Deferred.ofValue,Sem.run_bind,Sem.run_pure,Result.andThen_ok,invoke,Array.empty_append,List.append_toArray]
  exact hen _ _
 unfold Oper.wp
 rw[hr,Oper.upon_enter,hd]
 refine hcall.mono ?_
 rintro e w' ⟨v,rfl,h2,h4⟩
 exact hk _ _ _ (ha.put (by simpa using hn) v) (h v w' (S.back h2) h4)
theorem SH.Cz{α:Type}{C:Cd α}{z:α}(S:SH w M X H)(hi:nth H i=some (Rs.box g E l))(hl:l=C.f z)(hr:C.u8<=140737488355328):aG C (M.un (XH w X H).h) (some ⟨g,0,none⟩) 1 [z]:=by
 have hmem:Rs.box g E l∈H:=by rw[eN]at hi;exact List.mem_of_getElem? hi
 refine⟨by simp,by simpa using hr,fun _=>⟨rfl,l.toArray,E,(0,0),?_,fun j u hu=>?_⟩⟩
 ·show(M.un (XH w X H).h) g=_
  have h1:=S.bl _ hmem g (by simp[Rs.box])
  have h2:hp w g=some (.cells l.toArray E (0,0)):=S.get hi
  have h3:(H.any fun r=>r.bl.contains g)=true:=pM.2 ⟨_,hmem,List.mem_singleton.2 rfl⟩
  simp only[Hp.un,h1.2.1,XH,h3,if_true,h2]
 ·rw[List.flatMap_cons,List.flatMap_nil,List.append_nil,<-hl]at hu
  simpa[rF]using hu
theorem SH.aeV(S:SH w M X H)(hi:nth H i=some (Rs.box g E l)):dG (M.un (XH w X H).h) g E l:=by
 have hmem:Rs.box g E l∈H:=by rw[eN]at hi;exact List.mem_of_getElem? hi
 have h1:=S.bl _ hmem g (by simp[Rs.box])
 have h2:hp w g=some (.cells l.toArray E (0,0)):=S.get hi
 unfold dG
 have h3:(H.any fun r=>r.bl.contains g)=true:=pM.2 ⟨_,hmem,List.mem_singleton.2 rfl⟩
 simp only[Hp.un,h1.2.1,XH,h3,if_true,h2]
theorem ajL{ca:Call}{ops:List Operand}{ts:List TypeId}(hop:o.op=.call ca)(cJ:ca.callee=.builtin .max)(hxs:ca.args=ops.toArray)(hts:ca.argTypes=ts.toArray)(hx:oevs L ops=some [.int .i64 a,.int .i64 b]):Run P o L w (.int .i64 (max a b)) w:=by
 intro n c he
 have e:(if b>a then b else a)=max a b:=by
  by_cases h:b>a
  ·rw[if_pos h];omega
  ·rw[if_neg h];omega
 unfold execOp
 simp only[hop,resolve,cJ,hxs,hts,List.map_toArray,he.lF hx,Sem.run_bind,Sem.run_pure,Result.andThen_ok,invoke,builtin,Builtin.max_,List.foldlM_cons,List.foldlM_nil,Builtin.max2,e]
theorem wh{α:Type}{C:Cd α}{len:Nat}{pa:Array (Nat×Operand)}{ps:List (Nat×Operand)}{vs:List (Nat×Value)}{pl:List (Nat×Nat)}(hop:o.op=.buildSlice T len pa)(vG:pa=ps.toArray)(hd:o.dst=some d)(hn:Nat.blt d n=true)(hT:ky P T C)(hps:partL L ps=some vs)(hpl:plOk C.k 0 pl=true)
  (hl:fillL pl (List.flatten (List.replicate len (C.f C.z))) vs=some l)(hsm:Nat.ble (len*C.k) 16777216=true)(hlen:Nat.blt 0 len=true)(S:SH w M X H)
  (h:∀g w',SH w' M X (Rs.box g C.E l::H)->Kt ((d,.slice (some ⟨g,0,none⟩) len len)::L) w'):WO P n o L w Kt:=by
 obtain⟨zv,h1,h2,h3,h4,h5⟩:=hT
 obtain⟨inf,sP,hz,hs,h8⟩:=info_parts h2
 have Ru:zv.cells.size=C.k:=by rw[<-C.hf C.z,<-h3];simp
 subst vG
 have hzl:((Array.range (len*C.k)).map (zv.cells[·%zv.cells.size]!)).toList=List.flatten (List.replicate len (C.f C.z)):=by
  have e0:List.flatten (List.replicate len (C.f C.z))=(List.replicate len C.z).flatMap C.f:=by
   rw[List.flatMap_def,List.map_replicate]
  rw[e0]
  apply List.ext_getElem?
  intro q
  by_cases hq:q<len*C.k
  ·have hi:q/C.k<(List.replicate len C.z).length:=by rw[List.length_replicate];exact(Nat.div_lt_iff_lt_mul h4).2 hq
   have hj:q%C.k<C.k:=Nat.mod_lt _ h4
   have e:=nB C.hf hi hj
   rw[show q/C.k*C.k+q%C.k=q by rw[Nat.mul_comm];exact Nat.div_add_mod q C.k]at e
   rw[e,List.getElem_replicate,<-h3]
   simp only[Ru,Array.toList_map,Array.toList_range,List.getElem?_map,List.getElem?_range hq,Option.map_some]
   rw[Array.getElem!_eq_getD]
   simp[Ru,hj]
  ·rw[List.getElem?_eq_none,List.getElem?_eq_none]
   ·rw[lh C.hf,List.length_replicate];omega
   ·simp;omega
 have hf:Instr.fill (fun i=>some (i*C.k,C.k)) ((Array.range (len*C.k)).map (zv.cells[·%zv.cells.size]!)) vs=some l.toArray:=
  Gt (pl:=pl) (fun i p hp=>by rw[F9 hpl i p hp,Nat.zero_add]) vs _ l (by rw[hzl];exact hl)
 have hlen':0<len:=by simpa using hlen
 have hr:=run_buildSlice (P:=P) w T C.E len vs.toArray l.toArray inf zv h1 sP hz (by rw[hs];have:=Nat.le_of_ble_eq_true hsm;omega) (by rw[hs];have:=Nat.mul_pos hlen' h4;omega) (by rw[hs];exact hf)
 refine Ub (v:=.slice (some ⟨w.heap.size,0,none⟩) len len) (w':=w.alloc (.cells l.toArray C.E)) hd hn ?_ (h _ _ (S.CL C.E l))
 intro n c he
 unfold execOp
 simp only[hop,List.map_toArray,Ce he hps,hr,Sem.run_bind,Sem.run_pure,Result.andThen_ok]
theorem SH.Cf{α:Type}{C:Cd α}{zs:List α}(S:SH w M X H)(hi:nth H i=some (Rs.box g E l))(hl:l=zs.flatMap C.f)(hr:zs.length*C.u8<=140737488355328):aG C (M.un (XH w X H).h) (some ⟨g,0,none⟩) zs.length zs:=by
 refine⟨Nat.le_refl _,hr,fun _=>⟨rfl,l.toArray,E,(0,0),S.aeV hi,fun j u hu=>?_⟩⟩
 rw[<-hl]at hu
 simpa[rF]using hu
end
section
variable {α : Type} {C : Cd α} {N : Hp} {vs : List fO} {xss : List (List α)}
end
end Go.Proofs.YthppkofceancjaaGreat
namespace Go.Proofs.YthppkofceancjaaGreat
open Go.ChangeShapes Go.WideShapes Go.ChangeAt Go.RowKit
section
variable {P : Program} {f : FuncId} {vs vs' : List Value} {w : World} {M : Hp} {X : Fr}
theorem fy.at_{α:Type}{C:Cd α}{ss:List fO}{xss:List (List α)}{H:List Rs}(_:SH w M X H)(h:fy C (M.un (XH w X H).h) ss xss):fy C (M.un (XH w X H).h) ss xss:=h
end
end Go.Proofs.YthppkofceancjaaGreat
namespace Go.Proofs.YthppkofceancjaaGreat
open Go.ChangeShapes Go.WideShapes Go.ChangeAt Go.RowKit
def fO.v(s:fO):Value:=.slice s.A s.n s.c
section
variable {α : Type} {C : Cd α} {xs zs : List α} {v : Value} {w w' : World} {M : Hp} {X : Fr} {H H' : List Rs} {i q g k : Nat} {T : TypeId} {l : List Value} {vs : List fO} {xss : List (List α)} {r s t : Rs}
theorem aaX{β:Type}[Inhabited β](xs:List β)(i j:Nat)(y:β)(h:i≠j):ga (xs.set i y) j=ga xs j:=by
 unfold ga
 rw[List.getD_eq_getElem?_getD,List.getD_eq_getElem?_getD,List.getElem?_set,if_neg h]
theorem SH.alB(S:SH w M X H)(zs:List α)(hi:nth H i=some (Rs.box g C.E l))(hl:l=zs.flatMap C.f)(hm:zs.length<=16777216)(hH:H.set i (Rs.row C (.slice (some ⟨g,0,none⟩) zs.length zs.length) zs)=H'):SH w M X H':=by
 have hb:hp w g=some (.cells l.toArray C.E (0,0)):=S.get hi
 refine S.step hi hH (gX.refl w) (fun _ _ _=>rfl) (.inr ⟨g,zs.length,l.toArray,rfl,hb,Nat.le_refl _,by unfold maxLen;omega,by rw[hl];simpa using lh C.hf zs,?_⟩) (fun b hb'=>⟨.inl ?_,?_⟩)
 ·rw[hl,List.take_of_length_le (by rw[List.toList_toArray,lh C.hf];exact Nat.le_refl _)]
 ·simpa[Rs.row,Value.ownBlock,Rs.box]using hb'
 ·simp[Rs.row,Value.ownBlock]at hb'
  subst hb'
  exact iz hb
theorem iT.cell [Inhabited α](h:iT C v xs (hp w)){e j:Nat}{u:Value}(he:e<xs.length)(hj:Nat.blt j C.k=true)(hu:nth (C.f (ga xs e)) j=some u):w.cell? ⟨rb v,e*C.k+j,none⟩=some u:=by
 rcases h with⟨_,h2⟩|⟨g,cap,cur,rfl,h2,h3,h4,h5,h6⟩
 ·rw[h2]at he;simp at he
 ·have hj':j<C.k:=by simpa using hj
  show w.cell? ⟨g,e*C.k+j,none⟩=some u
  rw[cell_of_row w g _ cur C.E (0,0) h2]
  have hlt:e*C.k+j<xs.length*C.k:=by
   have:=Nat.mul_le_mul_right C.k (show e+1<=xs.length by omega)
   rw[Nat.succ_mul]at this
   omega
  have h7:=nB C.hf (xs:=xs) he hj'
  rw[<-h6,List.getElem?_take,if_pos hlt,<-eo he,<-eN (C.f (ga xs e)),hu]at h7
  simpa using h7
end
section
variable {P : Program} {o : Oper} {L : List (Nat × Value)} {w w' : World} {x y z : Operand} {t t' T E : TypeId} {a b : Int} {v u : Value} {n d : Nat} {Kt : List (Nat × Value) → World → Prop} {M M' : Hp} {X : Fr} {H H' : List Rs} {i k g off : Nat} {l : List Value}
end
end Go.Proofs.YthppkofceancjaaGreat
namespace Go.Proofs.YthppkofceancjaaGreat
open Go.ChangeShapes Go.WideShapes Go.ChangeAt Go.RowKit
theorem jM{P:Program}{n:Nat}{C:Ctx}{c:Code}{s:List K}{L:List (Nat×Value)}{w:World}{M:Hp}{X:Fr}(N Hb:List Rs)(hk:kind c=8)(hm:P.follows .mixedOrders=true)(S:SH w M X (N++Hb))(f:Nat)(hf:(rg c).size=f)(h:WA P n C c s X f (Array.replicate f false) L M Hb M (N++Hb)):WS P n C c s L w:=by
 intro a ha
 rw[BN hk]
 refine wp_region_any hm ?_
 rw[hf]
 exact gP.any _ _ _ _ _ _ _ _ (S.kp ⟨rfl,rfl,rfl,Nat.le_refl _⟩ fun _ _=>rfl) (BJ _) (h ⟨Hp.le_refl _,N,rfl⟩ a ha)
def FE(P:Program)(f:Field)(p:Nat×Bool):Prop:=
 (f.name== "_")=false/\f.offset=p.1/\(match p.2 with|true=>P.underlying f.type=some .bool|false=>∃k,P.underlying f.type=some (.int k))
def qZ(xs ys:List Value):List (Nat×Bool)->Prop->Prop
 |[],Q=>Q=True
 |[(o,false)],Q=>∃k x y,nth xs o=some (.int k x)/\nth ys o=some (.int k y)/\Q=(x=y)
 |[(o,true)],Q=>∃x y,nth xs o=some (.bool x)/\nth ys o=some (.bool y)/\Q=(x=y)
 |(o,false)::r,Q=>∃k x y Q',nth xs o=some (.int k x)/\nth ys o=some (.int k y)/\qZ xs ys r Q'/\Q=(x=y/\Q')
 |(o,true)::r,Q=>∃x y Q',nth xs o=some (.bool x)/\nth ys o=some (.bool y)/\qZ xs ys r Q'/\Q=(x=y/\Q')
def Ae(P:Program)(T:TypeId)(pl:List (Nat×Bool)):Prop:=
 ∃fs:List Field,P.underlying T=some (.struct fs.toArray)/\yF (FE P) fs pl/\P.stoodInHeld T=false/\P.eqGuardType P.depth T=false
section
variable {P : Program}
theorem acj{xs ys:List Value}{o:Nat}{b:Bool}:∀{r:List (Nat×Bool)}{Q:Prop},qZ xs ys ((o,b)::r) Q->∃Q1 Q2,(match b with|false=>∃k x y,nth xs o=some (.int k x)/\nth ys o=some (.int k y)/\Q1=(x=y)|true=>∃x y,nth xs o=some (.bool x)/\nth ys o=some (.bool y)/\Q1=(x=y))/\qZ xs ys r Q2/\(Q<->Q1/\Q2)
 |[],Q,h=>by
  cases b with
  |false=>obtain⟨k,x,y,h1,h2,rfl⟩:=h;exact⟨_,True,⟨k,x,y,h1,h2,rfl⟩,rfl,by simp⟩
  |true=>obtain⟨x,y,h1,h2,rfl⟩:=h;exact⟨_,True,⟨x,y,h1,h2,rfl⟩,rfl,by simp⟩
 |(_::_),Q,h=>by
  cases b with
  |false=>obtain⟨k,x,y,Q',h1,h2,h3,rfl⟩:=h;exact⟨_,Q',⟨k,x,y,h1,h2,rfl⟩,h3,Iff.rfl⟩
  |true=>obtain⟨x,y,Q',h1,h2,h3,rfl⟩:=h;exact⟨_,Q',⟨x,y,h1,h2,rfl⟩,h3,Iff.rfl⟩
theorem mq{T:TypeId}{dd:TypeDesc}{cs:List Value}{o:Nat}{v:Value}{w:World}(hu:P.underlying T=some dd)(hd:pO dd=true)(hv:nth cs o=some v):(part T cs.toArray o).run P w=.ok v w:=by
 rw[eN]at hv
 simp only[part,Sem.run_bind,vT hu,hd,Result.andThen_ok,Bool.not_true,Bool.false_eq_true,if_false,List.getElem?_toArray,hv,Sem.run_pure]
theorem aaf{xs ys:List Value}{w:World}:∀{fs:List Field}{pl:List (Nat×Bool)}{Q:Prop},yF (FE P) fs pl->qZ xs ys pl Q->∃r:Bool,(Op.eqFields 9999 xs.toArray ys.toArray fs).run P w=.ok r w/\(r=true<->Q)
 |[],[],Q,_,h=>⟨true,rfl,by rw[show Q=True from h];simp⟩
 |f::fs,(o,b)::pl,Q,ha,h=>by
  obtain⟨⟨hn,ho,hu⟩,ha⟩:=ha
  obtain⟨Q1,Q2,h1,h2,aoG⟩:=acj h
  obtain⟨r2,hr2,hi2⟩:=aaf (w:=w) ha h2
  have hne:f.name≠ "_":=by simpa using hn
  simp only at ho
  have key:∃r1:Bool,∃u v,(part f.type xs.toArray f.offset).run P w=.ok u w/\(part f.type ys.toArray f.offset).run P w=.ok v w/\(Op.equalIn 9999 f.type u v).run P w=.ok r1 w/\(r1=true<->Q1):=by
   cases b with
   |false=>
    obtain⟨k,x,y,g1,g2,rfl⟩:=h1
    obtain⟨k',hu⟩:=hu
    exact⟨_,_,_,mq hu rfl (by rw[ho];exact g1),mq hu rfl (by rw[ho];exact g2),run_equalIn_int w 9998 _ _ _ _ _ hu,by simp⟩
   |true=>
    obtain⟨x,y,g1,g2,rfl⟩:=h1
    exact⟨_,_,_,mq hu rfl (by rw[ho];exact g1),mq hu rfl (by rw[ho];exact g2),run_equalIn_bool' w 9998 _ _ _ hu,by simp⟩
  obtain⟨r1,u,v,k1,k2,k3,k4⟩:=key
  refine⟨r1&&r2,?_,by rw[aoG,<-k4,<-hi2];simp⟩
  rw[Op.eqFields,if_pos hne]
  simp only[Sem.run_bind,k1,k2,k3,Result.andThen_ok]
  cases r1<;>simp[hr2]
 |[],_::_,_,ha,_=>False.elim ha
 |_::_,[],_,ha,_=>False.elim ha
variable {o : Oper} {L : List (Nat × Value)} {w : World} {x y : Operand} {t t' : TypeId}
theorem aaj{xs ys:List Value}{pl:List (Nat×Bool)}{Q:Prop}[Decidable Q](hT:Ae P t pl)(he:qZ xs ys pl Q):(Op.equalIn 10000 t (.agg xs.toArray) (.agg ys.toArray)).run P w=.ok (decide Q) w:=by
 obtain⟨fs,hu,ha,hs,_⟩:=hT
 have nt:P.fieldsOf t=fs.toArray:=by simp[Program.fieldsOf,hu]
 obtain⟨r,hr,hi⟩:=aaf (w:=w) ha he
 rw[run_equalIn_struct w 9999 t _ _ (by rw[nt];exact hu) hs,nt]
 have:r=decide Q:=by
  by_cases h:Q
  ·rw[decide_eq_true h];exact hi.2 h
  ·rw[decide_eq_false h]
   cases r with
   |false=>rfl
   |true=>exact absurd (hi.1 rfl) h
 rw[<-this]
 exact hr
theorem BX{xs ys:List Value}{pl:List (Nat×Bool)}{Q:Prop}[Decidable Q](hop:o.op=.binOp .eql t x y t')(hx:oev L x=some (.agg xs.toArray))(hy:oev L y=some (.agg ys.toArray))(hT:Ae P t pl)(he:qZ xs ys pl Q):Run P o L w (.bool (decide Q)) w:=by
 intro n c' he'
 have hg:=run_eqGuard_agg (P:=P) w .eql t x y xs.toArray ys.toArray hT.choose_spec.2.2.2
 unfold execOp
 simp only[hop,he'.eval hx,he'.eval hy,hg,Sem.run_bind,Sem.run_pure,Result.andThen_ok,run_eql_struct,aaj hT he]
end
end Go.Proofs.YthppkofceancjaaGreat
namespace Go.Proofs.YthppkofceancjaaGreat
open Go.ChangeShapes Go.WideShapes Go.ChangeAt Go.RowKit
theorem ak1(xs:List Bool)(e:Nat)(h:e<xs.length):nth (xs.map Value.bool) e=some (.bool (ga xs e)):=by
 rw[eN,List.getElem?_map,ace h];rfl
def wr(x:Int):Int:=IntKind.i64.wrap x
theorem alP{x:Int}(h:-9223372036854775808<=x/\x<=9223372036854775807):wr x=x:=by unfold wr;rw[IntKind.wrap_i64];omega
theorem ac2(x y:Int):wr (wr x+y)=wr (x+y):=by unfold wr;rw[IntKind.wrap_i64,IntKind.wrap_i64,IntKind.wrap_i64];omega
section
variable {P : Program} {o : Oper} {L : List (Nat × Value)} {w : World} {x y : Operand} {t t' E : TypeId} {a b : Int}
end
end Go.Proofs.YthppkofceancjaaGreat
namespace Go.Proofs.YthppkofceancjaaGreat
open Go.ChangeShapes Go.WideShapes Go.ChangeAt Go.RowKit
section
variable {κ ε : Type} [DecidableEq κ]
def mg(k:κ):List (κ×ε)->Option ε
 |[]=>none
 |p::r=>if k=p.1 then some p.2 else mg k r
def mp(k:κ)(v:ε):List (κ×ε)->List (κ×ε)
 |[]=>[(k,v)]
 |p::r=>if k=p.1 then(k,v)::r else p::mp k v r
def fk(k:κ):List (κ×ε)->Nat->Option (Nat×ε)
 |[],_=>none
 |p::r,i=>if k=p.1 then some (i,p.2)else fk k r (i+1)
theorem C4(k k':κ)(v:ε):∀es:List (κ×ε),mg k (mp k' v es)=if k=k' then some v else mg k es
 |[]=>by simp[mp,mg]
 |p::r=>by
  unfold mp
  by_cases h:k'=p.1
  ·rw[if_pos h]
   by_cases h2:k=k'
   ·simp[mg,h2]
   ·have h3:k≠p.1:=fun e=>h2 (e.trans h.symm)
    simp[mg,h2,h3]
  ·rw[if_neg h]
   have ih:=C4 k k' v r
   by_cases h2:k=p.1
   ·have h3:k≠k':=fun e=>h (e.symm.trans h2)
    rw[if_neg h3]
    simp[mg,h2]
   ·simp only[mg,if_neg h2,ih]
theorem yU{k:κ}:∀{es:List (κ×ε)}{i:Nat},fk k es i=none->mg k es=none/\∀v,mp k v es=es++[(k,v)]
 |[],_,_=>⟨rfl,fun _=>rfl⟩
 |p::r,i,h=>by
  unfold fk at h
  split at h
  ·cases h
  ·rename_i hne
   obtain⟨h1,h2⟩:=yU h
   exact⟨by simp[mg,hne,h1],fun v=>by simp[mp,hne,h2 v]⟩
theorem yT{k:κ}:∀{es:List (κ×ε)}{i j:Nat}{v:ε},fk k es i=some (j,v)->mg k es=some v/\∃m,j=i+m/\∃p,es[m]? =some p/\p.1=k/\∀v',mp k v' es=es.set m (k,v')
 |p::r,i,j,v,h=>by
  unfold fk at h
  split at h
  ·rename_i he
   injection h with h
   injection h with h1 h2
   exact⟨by simp[mg,he,h2],0,by omega,p,rfl,he.symm,fun v'=>by simp[mp,he]⟩
  ·rename_i hne
   obtain⟨h1,m,h2,q,h3,h4,h5⟩:=yT h
   exact⟨by simp[mg,hne,h1],m+1,by omega,q,by simpa using h3,h4,fun v'=>by simp[mp,hne,h5 v']⟩
end
structure qX(P:Program)(K:TypeId){κ:Type}[DecidableEq κ](kc:κ->Value):Prop where
 check:∀k w b,(Instr.checkKey b 10000 K (kc k)).run P w=.ok () w
 find:∀(k:κ) (es:List (κ×Value)) (l:List MapEntry) (w:World),l.map (fun e=>(e.key,e.val))=es.map (fun p=>(kc p.1,p.2))->(Instr.findKey K (kc k) l).run P w=.ok (fk k es 0) w
 bits:∀k,Instr.sameBits 10000 (kc k) (kc k)=true
theorem ai4{P:Program}{K:TypeId}(hu:P.underlying K=some (.int .i64)):qX P K (Value.int .i64):=by
 have amL:∀(k:Int) (es:List (Int×Value)) (l:List MapEntry) (i:Nat),l.map (fun e=>(e.key,e.val))=es.map (fun p=>(Value.int .i64 p.1,p.2))->Instr.findNow (.int .i64) (.int .i64 k) l i=some (fk k es i):=by
  intro k es
  induction es with
  |nil=>intro l i h;rw[List.map_nil,List.map_eq_nil_iff]at h;subst h;rfl
  |cons p es ih=>
   intro l i h
   cases l with
   |nil=>cases h
   |cons e l=>
    simp only[List.map_cons,List.cons.injEq,Prod.mk.injEq]at h
    unfold Instr.findNow fk
    rw[h.1.1]
    simp only[Instr.sameNow,if_true]
    by_cases hk:k=p.1
    ·simp[hk,h.1.2]
    ·have e1:(k==p.1)=false:=by simpa using hk
     rw[e1,if_neg hk]
     exact ih l (i+1) h.2
 refine⟨fun k w b=>?_,fun k es l w h=>MapKept.run_findKey hu (amL k es l 0 h),fun k=>by simp[Instr.sameBits]⟩
 rw[show(10000:Nat)=9999+1 from rfl]
 unfold Instr.checkKey
 simp only[Sem.run_bind,run_underlying hu,Result.andThen]
 rfl
theorem ab3 {P : Program} {K : TypeId} {κ : Type} [DecidableEq κ] {f : κ → List Value} {pl : List (Nat × Bool)} (hT : Ae P K pl) (he : ∀ x y, ∃ Q, qZ (f x) (f y) pl Q ∧ (Q ↔ x = y)) (hb : ∀ k, Instr.sameBits 10000 (.agg (f k).toArray) (.agg (f k).toArray) = true) : qX P K (fun k => .agg (f k).toArray) := by
  have heq : ∀ (x y : κ) (w : World), (Op.equal K (.agg (f x).toArray) (.agg (f y).toArray)).run P w = .ok (decide (x = y)) w := by
    intro x y w
    obtain ⟨Q, h1, h2⟩ := he x y
    haveI : Decidable Q := decidable_of_iff _ h2.symm
    have := aaj (P := P) (w := w) hT h1
    rw [show decide (x = y) = decide Q from decide_eq_decide.2 h2.symm]
    exact this
  have ao8 : ∀ (k : κ) (es : List (κ × Value)) (l : List MapEntry) (i : Nat) (w : World), l.map (fun e => (e.key, e.val)) = es.map (fun p => (Value.agg (f p.1).toArray, p.2)) → (Instr.findAsking K (.agg (f k).toArray) l i).run P w = .ok (fk k es i) w := by
    intro k es
    induction es with
    | nil => intro l i w h; rw [List.map_nil, List.map_eq_nil_iff] at h; subst h; rfl
    | cons p es ih =>
      intro l i w h
      cases l with
      | nil => cases h
      | cons e l =>
        simp only [List.map_cons, List.cons.injEq, Prod.mk.injEq] at h
        unfold Instr.findAsking fk
        rw [h.1.1]
        simp only [Sem.run_bind, heq, Result.andThen]
        by_cases hk : k = p.1
        · simp [hk, h.1.2]
        · simp only [hk, decide_false, Bool.false_eq_true, if_false]
          exact ih l (i + 1) w h.2
  obtain ⟨fs, hu, ha, hs, _⟩ := hT
  refine ⟨fun k w b => ?_, fun k es l w h => ?_, hb⟩
  · have nt : ∀ (fs : List Field) (pl : List (Nat × Bool)) (Q : Prop), yF (FE P) fs pl → qZ (f k) (f k) pl Q → ((forIn fs PUnit.unit fun (rE : Field) (_ : PUnit) => if rE.name ≠ "_" then (do
        let x ← part rE.type (f k).toArray rE.offset
        Instr.checkKey b 9999 rE.type x
        pure (ForInStep.yield PUnit.unit) : Sem (ForInStep PUnit)) else pure (ForInStep.yield PUnit.unit)) : Sem PUnit).run P w = .ok () w := by
      intro fs
      induction fs with
      | nil => intro pl Q _ _; rfl
      | cons rE fs ih =>
        intro pl Q ha h
        cases pl with
        | nil => exact False.elim ha
        | cons p pl =>
          obtain ⟨o, bb⟩ := p
          obtain ⟨⟨hn, ho, hu'⟩, ha⟩ := ha
          obtain ⟨Q1, Q2, h1, h2, _⟩ := acj h
          have hne : rE.name ≠ "_" := by simpa using hn
          simp only at ho
          have key : ∃ u, (part rE.type (f k).toArray rE.offset).run P w = .ok u w ∧ (Instr.checkKey b 9999 rE.type u).run P w = .ok () w := by
            cases bb with
            | false =>
              obtain ⟨q, x, y, g1, _, _⟩ := h1
              obtain ⟨k', hu'⟩ := hu'
              refine ⟨_, mq hu' rfl (by rw [ho]; exact g1), ?_⟩
              rw [show (9999 : Nat) = 9998 + 1 from rfl]
              unfold Instr.checkKey
              simp only [Sem.run_bind, run_underlying hu', Result.andThen]
              rfl
            | true =>
              obtain ⟨x, y, g1, _, _⟩ := h1
              refine ⟨_, mq hu' rfl (by rw [ho]; exact g1), ?_⟩
              rw [show (9999 : Nat) = 9998 + 1 from rfl]
              unfold Instr.checkKey
              simp only [Sem.run_bind, run_underlying hu', Result.andThen]
              rfl
          obtain ⟨u, k1, k2⟩ := key
          have := ih pl Q2 ha h2
          rw [List.forIn_cons]
          simp only [if_pos hne, Sem.run_bind, k1, k2, Result.andThen, Sem.run_pure]
          exact this
    obtain ⟨Q, h1, _⟩ := he k k
    have := nt fs pl Q ha h1
    rw [show (10000 : Nat) = 9999 + 1 from rfl]
    unfold Instr.checkKey
    simp only [Sem.run_bind, run_underlying hu, Result.andThen]
    rw [← Array.forIn_toList, List.toList_toArray]
    rw [this]
    rfl
  · unfold Instr.findKey
    simp only [Sem.run_bind, run_underlying hu, Result.andThen]
    cases l with
    | nil =>
      cases es with
      | nil => simp [Instr.findNow, fk]
      | cons p es => cases h
    | cons e l =>
      have hn : Instr.findNow (.struct fs.toArray) (.agg (f k).toArray) (e :: l) 0 = none := by
        unfold Instr.findNow
        simp [Instr.sameNow]
      rw [hn]
      exact ao8 k es (e :: l) 0 w h
def yx(arr:Array MapEntry)(clock:Nat):Prop:=(arr.toList.map (·.born)).Nodup/\∀e∈arr.toList,e.born<clock
def na{κ ε:Type}(kc:κ->Value)(vc:ε->Value)(g:Nat)(es:List (κ×ε))(h:Hp):Prop:=
 ∃arr clock,h g=some (.map arr clock)/\arr.toList.map (fun e=>(e.key,e.val))=es.map (fun p=>(kc p.1,vc p.2))/\yx arr clock
def Rs.mp{κ ε:Type}(kc:κ->Value)(vc:ε->Value)(g:Nat)(es:List (κ×ε)):Rs:=
 ⟨[g],na kc vc g es,fun h h' hb hk=>by
  obtain⟨arr,clock,h1,h2⟩:=hk
  exact⟨arr,clock,by rw[hb g (by simp)];exact h1,h2⟩⟩
section
variable {P : Program} {o : Oper} {L : List (Nat × Value)} {w w' : World} {x y z : Operand} {t T K E : TypeId} {v u : Value} {n d g i : Nat} {Kt : List (Nat × Value) → World → Prop} {M M' : Hp} {X : Fr} {H H' : List Rs}
variable {κ ε : Type} [DecidableEq κ] {kc : κ → Value} {vc : ε → Value} {es : List (κ × ε)}
theorem yq(κ ε:Type)(kc:κ->Value)(vc:ε->Value)(hop:o.op=.makeMap T none)(hd:o.dst=some d)(hn:Nat.blt d n=true)(S:SH w M X H)
  (h:∀g w',SH w' M X (Rs.mp kc vc g ([]:List (κ×ε))::H)->Kt ((d,.map (some g))::L) w'):WO P n o L w Kt:=by
 refine Ub (v:=.map (some w.heap.size)) (w':=w.alloc (.map #[] 0)) hd hn ?_ (h _ _ ?_)
 ·intro n c he
  unfold execOp
  simp only[hop,Option.map_none,run_makeMap,Sem.run_bind,Result.andThen_ok,Sem.run_pure]
 ·exact S.cons (ym w _) (yl w _) ⟨#[],0,heap_alloc_new w _,rfl,by simp[yx]⟩ (fun b hb=>by simp[Rs.mp]at hb;subst hb;rw[rQ];omega)
omit [DecidableEq κ] in
theorem Gd{arr:Array MapEntry}(h:arr.toList.map (fun e=>(e.key,e.val))=es.map (fun p=>(kc p.1,vc p.2))):arr.toList.map (fun e=>(e.key,e.val))=(es.map (fun p=>(p.1,vc p.2))).map (fun p=>(kc p.1,p.2)):=by
 rw[h,List.map_map];rfl
theorem CP(k:κ):∀(es:List (κ×ε)) (i:Nat),fk k (es.map (fun p=>(p.1,vc p.2))) i=(fk k es i).map (fun q=>(q.1,vc q.2))
 |[],_=>rfl
 |p::r,i=>by
  simp only[List.map_cons,fk]
  split
  ·rfl
  ·exact CP k r (i+1)
theorem SH.look{k:κ}{zv:ε}(S:SH w M X H)(hi:nth H i=some (Rs.mp kc vc g es))(hu:P.underlying T=some (.map K E))(hK:qX P K kc)(hz:(P.info? E).map (·.zero)=some (some (vc zv))):(Instr.lookup T (.map (some g)) (kc k) false).run P w=.ok (vc ((mg k es).getD zv)) w/\(Instr.lookup T (.map (some g)) (kc k) true).run P w=.ok (.tuple #[vc ((mg k es).getD zv),.bool (mg k es).isSome]) w:=by
 obtain⟨arr,clock,hg,ha,kQ⟩:=(S.get hi:na kc vc g es (hp w))
 have hf:=hK.find k _ arr.toList w (Gd ha)
 rw[CP]at hf
 have hg':w.heap[g]? =some (.map arr clock):=hg
 have hgo:=MapKept.run_getObj_map (P:=P) hg'
 have hc:=fun b=>hK.check k w b
 cases jv:fk k es 0 with
 |none=>
  rw[jv]at hf
  have hm:=(yU jv).1
  constructor
  ·simp only[Instr.lookup,Sem.run_bind,run_underlying hu,hgo,hc,hf,Result.andThen_ok,Sem.run_pure,yJ hz,Option.map_none,hm,Option.getD_none]
   rfl
  ·simp only[Instr.lookup,Sem.run_bind,run_underlying hu,hgo,hc,hf,Result.andThen_ok,Sem.run_pure,yJ hz,Option.map_none,hm,Option.getD_none]
   rfl
 |some q=>
  obtain⟨j,v⟩:=q
  rw[jv]at hf
  have hm:=(yT jv).1
  constructor
  ·simp only[Instr.lookup,Sem.run_bind,run_underlying hu,hgo,hc,hf,Result.andThen_ok,Sem.run_pure,Option.map_some,hm,Option.getD_some]
   rfl
  ·simp only[Instr.lookup,Sem.run_bind,run_underlying hu,hgo,hc,hf,Result.andThen_ok,Sem.run_pure,Option.map_some,hm,Option.getD_some]
   rfl
theorem yo{k:κ}{zv:ε}(hop:o.op=.lookup T x y false)(hx:oev L x=some (.map (some g)))(hy:oev L y=some (kc k))(hu:P.underlying T=some (.map K E))(hK:qX P K kc)(hz:(P.info? E).map (·.zero)=some (some (vc zv)))(S:SH w M X H)(hi:nth H i=some (Rs.mp kc vc g es)):Run P o L w (vc ((mg k es).getD zv)) w:=by
 intro n c he
 unfold execOp
 simp only[hop,he.eval hx,he.eval hy,(S.look hi hu hK hz).1,Sem.run_bind,Result.andThen_ok,Sem.run_pure]
theorem Ge(w:World)(g:Nat)(ob:Obj):gX w {w with heap:=w.heap.setIfInBounds g ob}:=⟨rfl,rfl,rfl,by simp⟩
theorem om{k:κ}{e:ε}(hop:o.op=.mapUpdate T x y z\/o.op=.insert T x y z)(hd:o.dst=none)(S:SH w M X H)(hi:nth H i=some (Rs.mp kc vc g es))(hx:oev L x=some (.map (some g)))(hy:oev L y=some (kc k))(hz:oev L z=some (vc e))(hu:P.underlying T=some (.map K E))(hK:qX P K kc)
  (hH:H.set i (Rs.mp kc vc g (Go.Proofs.YthppkofceancjaaGreat.mp k e es))=H')(h:∀w',SH w' M X H'->Kt L w'):WO P n o L w Kt:=by
 obtain⟨arr,clock,hg,ha,kQ⟩:=(S.get hi:na kc vc g es (hp w))
 have hf:=hK.find k _ arr.toList w (Gd ha)
 rw[CP]at hf
 have hg':w.heap[g]? =some (.map arr clock):=hg
 have hgo:=MapKept.run_getObj_map (P:=P) hg'
 have hc:=fun b=>hK.check k w b
 have key:∃mG clock',(Instr.mapUpdate T (.map (some g)) (kc k) (vc e)).run P w=.ok () {w with heap:=w.heap.setIfInBounds g (.map mG clock')}/\mG.toList.map (fun e=>(e.key,e.val))=(Go.Proofs.YthppkofceancjaaGreat.mp k e es).map (fun p=>(kc p.1,vc p.2))/\yx mG clock':=by
  cases jv:fk k es 0 with
  |none=>
   rw[jv]at hf
   refine⟨arr.push {key:=kc k,val:=vc e,born:=clock},clock+1,?_,?_,?_⟩
   ·simp only[Instr.mapUpdate,Sem.run_bind,run_underlying hu,hgo,hc,hf,Result.andThen_ok,Option.map_none,MapKept.run_setObj_map _ hg']
   ·rw[(yU jv).2 e,Array.toList_push,List.map_append,List.map_append,ha];rfl
   ·refine⟨?_,fun x hx=>?_⟩
    ·rw[Array.toList_push,List.map_append]
     refine List.nodup_append.2 ⟨kQ.1,by simp,fun a ha' b hb'=>?_⟩
     obtain⟨x,hx,rfl⟩:=List.mem_map.1 ha'
     simp at hb'
     have:=kQ.2 x hx
     omega
    ·rw[Array.toList_push]at hx
     rcases List.mem_append.1 hx with h1|h1
     ·have:=kQ.2 x h1;omega
     ·simp at h1;subst h1;exact Nat.lt_succ_self _
  |some q=>
   obtain⟨j,v⟩:=q
   rw[jv]at hf
   obtain⟨_,m,hj,p,hp1,hp2,mA⟩:=yT jv
   obtain rfl:j=m:=by omega
   have hlen:arr.toList.length=es.length:=by have:=congrArg List.length ha;simpa using this
   have hjl:j<es.length:=(List.getElem?_eq_some_iff.1 hp1).1
   have hja:j<arr.size:=by rw[<-Array.length_toList,hlen];exact hjl
   have hkey:(arr[j]?).map (·.key)=some (kc k):=by
    have h1:=congrArg (fun l=>l[j]?) ha
    simp only[List.getElem?_map,hp1,Option.map_some]at h1
    rw[Array.getElem?_toList,Array.getElem?_eq_getElem hja]at h1
    rw[Array.getElem?_eq_getElem hja]
    simp only[Option.map_some,Option.some.injEq,Prod.mk.injEq]at h1 ⊢
    rw[h1.1,hp2]
   refine⟨arr.modify j fun e'=>{e' with key:=kc k,val:=vc e},clock,?_,?_,?_⟩
   ·have hst:(Instr.keyThatStays (kc k) (kc k)).run P w=.ok (kc k) w:=by
     unfold Instr.keyThatStays
     rw[if_pos (hK.bits k)];rfl
    simp only[Instr.mapUpdate,Sem.run_bind,run_underlying hu,hgo,hc,hf,Result.andThen_ok,Option.map_some,hkey,Option.getD_some,hst,MapKept.run_setObj_map _ hg']
   ·rw[mA e]
    apply List.ext_getElem?
    intro q
    have h1:=congrArg (fun l=>l[q]?) ha
    simp only[List.getElem?_map]at h1 ⊢
    rw[Array.getElem?_toList,Array.getElem?_modify,List.getElem?_set]
    rw[Array.getElem?_toList]at h1
    by_cases hq:j=q
    ·subst hq
     rw[if_pos rfl,if_pos rfl,if_pos hjl,Array.getElem?_eq_getElem hja]
     rfl
    ·rw[if_neg hq,if_neg hq]
     exact h1
   ·have hb:(arr.modify j fun e'=>{e' with key:=kc k,val:=vc e}).toList.map (·.born)=arr.toList.map (·.born):=by
     apply List.ext_getElem?
     intro q
     simp only[List.getElem?_map]
     rw[Array.getElem?_toList,Array.getElem?_modify,Array.getElem?_toList]
     by_cases hq:j=q
     ·subst hq;rw[if_pos rfl,Array.getElem?_eq_getElem hja];rfl
     ·rw[if_neg hq]
    refine⟨by rw[hb];exact kQ.1,fun x hx=>?_⟩
    have h2:x.born∈arr.toList.map (·.born):=by rw[<-hb];exact List.mem_map.2 ⟨x,hx,rfl⟩
    obtain⟨y,hy,e2⟩:=List.mem_map.1 h2
    rw[<-e2];exact kQ.2 y hy
 obtain⟨mG,clock',hrun,Hw,Ib⟩:=key
 have hlt:=iz hg
 refine Cs hd (w':={w with heap:=w.heap.setIfInBounds g (.map mG clock')}) ?_ (h _ ?_)
 ·intro n c he
  unfold execOp
  rcases hop with hop|hop<;>simp only[hop,he.eval hx,he.eval hy,he.eval hz,hrun,Sem.run_bind,Result.andThen_ok,Sem.run_pure]
 ·refine S.step hi hH (Ge w g _) (fun b _ hb=>?_) ⟨mG,clock',?_,Hw,Ib⟩ (fun b hb=>⟨.inl hb,?_⟩)
  ·have hne:b≠g:=by simpa[Rs.mp]using hb
   show(w.heap.setIfInBounds g _)[b]? =w.heap[b]?
   rw[Array.getElem?_setIfInBounds_ne (Ne.symm hne)]
  ·show(w.heap.setIfInBounds g _)[g]? =_
   simp[hlt]
  ·simp[Rs.mp]at hb
   subst hb
   show _<(w.heap.setIfInBounds _ _).size
   simpa using hlt
end
end Go.Proofs.YthppkofceancjaaGreat
