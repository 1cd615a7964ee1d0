/- Part 3 of the proof of the law MovesTake: the walks through its functions and the plain laws that they need. -/
import Derived.Test.YthppkofceancjaaGreatMtZ2
import Derived.RangeFuncNested
import Derived.RangeFuncBound
import Derived.RangeFuncCalls
import Derived.RangeFuncLeaves
import Derived.LoopNIn
import Derived.Sort.OwnSortedInts
import Derived.Shelf.Sort.Plain
import Derived.Shelf.Slices.In.SortNone
import Derived.Maps.RangeRun
set_option linter.unusedSimpArgs false
set_option linter.unusedVariables false
noncomputable section
namespace Go.Proofs.YthppkofceancjaaGreat
open Go.ChangeShapes Go.WideShapes Go.ChangeAt Go.RowKit
def Rs.aX(H:List Rs):Rs:=
 ⟨H.flatMap (·.bl),fun h=>(∀r∈H,r.ok h)/\∀(i j:Nat) r s,i≠j->H[i]? =some r->H[j]? =some s->∀b∈r.bl,b∉s.bl,fun h h' hb hk=>
  ⟨fun r hr=>r.loc h h' (fun b hbr=>hb b (List.mem_flatMap.2 ⟨r,hr,hbr⟩)) (hk.1 r hr),hk.2⟩⟩
section
variable {w w' : World} {M M' : Hp} {X : Fr} {H H' : List Rs} {r r' : Rs} {i : Nat}
theorem SH.aX(S:SH w M X H):SH w M X [Rs.aX H]:=by
 refine⟨S.m,S.x,S.mx,fun s hs=>?_,fun s hs b hb=>?_,fun i j r s hij hi hj b hb=>?_,S.like⟩
 ·rw[List.mem_singleton]at hs;subst hs;exact⟨S.ok,S.ap⟩
 ·rw[List.mem_singleton]at hs;subst hs
  obtain⟨r,hr,hbr⟩:=List.mem_flatMap.1 hb
  exact S.bl r hr b hbr
 ·have h1:=(List.getElem?_eq_some_iff.1 hi).1
  have h2:=(List.getElem?_eq_some_iff.1 hj).1
  simp at h1 h2;omega
theorem SH.kM(S:SH w M X [Rs.aX H]):SH w M X H:=by
 obtain⟨h1,h2⟩:=S.ok (Rs.aX H) (by simp)
 exact⟨S.m,S.x,S.mx,h1,fun r hr b hb=>S.bl (Rs.aX H) (by simp) b (List.mem_flatMap.2 ⟨r,hr,hb⟩),h2,S.like⟩
end
def Rs.lr(l D:Nat)(rc:Loop):Rs:=
 ⟨[l,D],fun h=>h l=some (.loop rc)/\h D=some (.deferred (some [])),fun h h' hb hk=>⟨by rw[hb l (by simp)];exact hk.1,by rw[hb D (by simp)];exact hk.2⟩⟩
namespace InF
structure Ctx where
 Q:Exit->Act->World->Prop
 r:Option Nat
def Ctx.F(C:Ctx):Fence:=match C.r with
 |none=>Fence.wide
 |some l=>Fence.wide.inRound l
theorem Ctx.qY(C:Ctx)(f:FuncId):C.F.fn f:=by
 unfold Ctx.F;split<;>trivial
theorem Ctx.akB(C:Ctx):C.F.depth=none:=by
 unfold Ctx.F;split<;>rfl
theorem Ctx.tG(C:Ctx){p:Prop}:C.F.depth.isSome=true->p:=by rw[C.akB];intro h;cases h
theorem CR(C:Ctx){m:Nat}{P:Program}{f:FuncId}{args:Array Value}{w:World}{R:Ending->World->Prop}(h:Calls P f args w R):CallsIn C.F m P f args w R:=by
 unfold Ctx.F
 split
 ·exact callsIn_wide.2 h
 ·exact(callsIn_wide.2 h).inRound _
theorem H7(C:Ctx){m:Nat}{P:Program}{row:String}{args:Array Value}{w:World}{R:Value->World->Prop}(h:Rows P row args w R):RowsIn C.F m P row args w R:=by
 unfold Ctx.F
 split
 ·exact fun c cs _=>let⟨v,w',r,s⟩:=h c cs;⟨v,w',r,stepsIn_wide.2 s⟩
 ·exact fun c cs _=>let⟨v,w',r,s⟩:=h c cs;⟨v,w',r,stepsIn_wide.2 s⟩
theorem ajW(C:Ctx){P:Program}{o:Oper}{a:Act}{w:World}{next:Act->World->Prop}{Q:Exit->Act->World->Prop}(hnd:∀c,o.op≠.defer c)(h:o.wp P a w next Q):o.wpIn C.F 0 P a w next Q:=by
 refine⟨fun f _=>C.qY f,?_⟩
 rw[Oper.semAt_eq _ _ _ hnd]
 unfold Oper.wp at h
 generalize (execOp a.eval o).run P w=r at h
 cases r with
 |ok nx w'=>
  cases nx with
  |value v=>exact h
  |skip=>exact h
  |defer d=>exact h
  |enter f args=>exact⟨C.tG,CR C h⟩
  |row row args=>exact⟨C.tG,H7 C h⟩
  |_=>exact h.elim
 |halt x w'=>
  cases x with
  |panic v=>exact h
  |_=>exact h.elim
def post(P:Program)(C:Ctx):List K->Exit->Act->World->Prop
 |[]=>C.Q
 |.thn c::s=>Exit.then (c.wpIn C.F 0 P (post P C s)) (post P C s)
 |.blk id::s=>Exit.inBlock id (post P C s)
 |.lp I::s=>Exit.then I (post P C s)
 |.jmp _ _::s=>post P C s
def WS(P:Program)(n:Nat)(C:Ctx)(c:Code)(s:List K)(L:List (Nat×Value))(w:World):Prop:=∀a,Env n L a->c.wpIn C.F 0 P (post P C s) a w
def NM(P:Program)(n:Nat)(C:Ctx)(s:List K)(L:List (Nat×Value))(w:World):Prop:=∀a,Env n L a->post P C s .normal a w
def WL(P:Program)(n:Nat)(C:Ctx)(c:Code)(k:Nat)(s:List K)(L:List (Nat×Value))(w:World):Prop:=∀a,Env n L a->wpListIn C.F 0 P (rg c) (post P C s) ((rg c).toList.drop k) a w
section
variable {P : Program} {n : Nat} {C : Ctx} {c : Code} {s : List K} {L : List (Nat × Value)} {w : World}
theorem bq(L2:List (Nat×Value))(hs:Sub L L2)(h:WS P n C c s L2 w):WS P n C c s L w:=fun a ha=>h a (ha.sub hs)
theorem bN(L2:List (Nat×Value))(hs:Sub L L2)(h:NM P n C s L2 w):NM P n C s L w:=fun a ha=>h a (ha.sub hs)
theorem U2(a b:Code)(hk:kind c=1)(ha:cL c=a)(hb:cR c=b)(h:WS P n C a (.thn b::s) L w):WS P n C c s L w:=by
 subst ha;subst hb
 intro a ha
 rw[Cg hk]
 exact wpIn_seq (h a ha)
theorem Uc(a:Code)(i:Nat)(hk:kind c=3)(ha:cL c=a)(hi:n9 c=i)(h:WS P n C a (.blk i::s) L w):WS P n C c s L w:=by
 subst ha;subst hi
 intro a ha
 rw[aaw hk]
 exact wpIn_block (h a ha)
theorem Ue(hk:kind c=9)(h:NM P n C s L w):WS P n C c s L w:=by
 intro a ha
 rw[aaS hk]
 exact wpIn_skip (h a ha)
theorem U3(h:WS P n C c s L w):NM P n C (.thn c::s) L w:=fun a ha=>h a ha
theorem bj{id:Nat}(h:NM P n C s L w):NM P n C (.blk id::s) L w:=fun a ha=>h a ha
theorem aO{I:Act->World->Prop}(h:∀a,Env n L a->I a w):NM P n C (.lp I::s) L w:=fun a ha=>h a ha
theorem py{id:Nat}:∀{s s':List K},popTo id s=some s'->∀a w,post P C s' .normal a w->post P C s (.exit id) a w
 |[],s',h,a,w,hq=>by cases h
 |.thn c::s,s',h,a,w,hq=>py (s:=s) h a w hq
 |.lp I::s,s',h,a,w,hq=>py (s:=s) h a w hq
 |.jmp _ _::s,s',h,a,w,hq=>py (s:=s) h a w hq
 |.blk i::s,s',h,a,w,hq=>by
  simp only[popTo]at h
  simp only[post,Exit.inBlock]
  by_cases hi:i=id
  ·subst hi
   simp only[Nat.beq_refl,Option.some.injEq]at h
   subst h
   rw[if_pos rfl]
   exact hq
  ·have h2:Nat.beq i id=false:=by
    cases hb:Nat.beq i id with
    |false=>rfl
    |true=>exact absurd (Nat.eq_of_beq_eq_true hb) hi
   simp only[h2]at h
   rw[if_neg (fun e=>hi e.symm)]
   exact py (s:=s) h a w hq
theorem bP{s':List K}(hk:kind c=5)(hp:popTo (n9 c) s=some s')(h:NM P n C s' L w):WS P n C c s L w:=by
 intro a ha
 rw[aaU hk]
 exact wpIn_exit (py hp a w (h a ha))
theorem dN(x y:Code){b:Bool}(hk:kind c=2)(hb:oev L (cX c)=some (.bool b))(hx:cL c=x)(hy:cR c=y)(ht:b=true->WS P n C x s L w)(hf:b=false->WS P n C y s L w):WS P n C c s L w:=by
 subst hx;subst hy
 intro a ha
 rw[aaV hk]
 exact wpIn_cond_split (ha.eval hb) (fun h=>ht h a ha) (fun h=>hf h a ha)
theorem fN(x:Code)(hk:kind c=2)(hb:oev L (cX c)=some (.bool true))(hx:cL c=x)(ht:WS P n C x s L w):WS P n C c s L w:=dN x (cR c) hk hb hx rfl (fun _=>ht) (fun e=>by cases e)
theorem jz(y:Code)(hk:kind c=2)(hb:oev L (cX c)=some (.bool false))(hy:cR c=y)(hf:WS P n C y s L w):WS P n C c s L w:=dN (cL c) y hk hb rfl hy (fun e=>by cases e) (fun _=>hf)
theorem bX{a:Act}{c':Code}(ha:Env n L a)(hc:c'=c)(h:WS P n C c s L w):c'.wpIn C.F 0 P (post P C s) a w:=by subst hc;exact h a ha
theorem Ux(I:Nat->Act->World->Prop)(hk:kind c=4)(h0:∀a,Env n L a->∃k,I k a w)
  (round:∀k a w,I k a w->(cL c).wpIn C.F 0 P (post P C (.lp (fun a' w'=>∃k',k'<k/\I k' a' w')::s)) a w):WS P n C c s L w:=by
 intro a ha
 rw[aaT hk]
 have key:∀m k,k<m->∀a w,I k a w->Code.roundsIn C.F 0 P (cL c) (post P C s) m a w:=by
  intro m
  induction m with
  |zero=>intro k hk;omega
  |succ m ih=>
   intro k hk a w hi
   rw[roundsIn_succ]
   refine wpIn_mono (round k a w hi) (fun e a w q=>?_)
   cases e with
   |normal=>
    obtain⟨k',hlt,hi'⟩:=q
    exact ih k' (by omega) a w hi'
   |_=>exact q
 obtain⟨k0,h1⟩:=h0 a ha
 exact wpIn_loop_rounds (k0+1) (key (k0+1) k0 (by omega) a w h1)
theorem kf(t:Nat){v:Value}(v':Value)(hl:lk L t=some v)(e:v=v')(h:WS P n C c s ((t,v')::L) w):WS P n C c s L w:=by
 subst e
 exact fun a ha=>h a ⟨ha.sz,ha.df,fun u x hx=>by
  rw[ql]at hx
  split at hx
  ·rename_i e;subst e;injection hx with hx;subst hx;exact ha.at_ _ _ hl
  ·exact ha.at_ _ _ hx⟩
theorem U0(hk:kind c=7)(h:WL P n C c 0 s L w):WS P n C c s L w:=by
 intro a ha
 rw[FW hk]
 exact wpIn_region_list (h a ha)
theorem U5{k:Nat}(hk:op c k=none)(h:NM P n C s L w):WL P n C c k s L w:=by
 intro a ha
 have:((rg c).toList.drop k)=[]:=by
  unfold op at hk
  rw[eN]at hk
  exact List.drop_eq_nil_of_le (by simpa using hk)
 rw[this]
 exact wpListIn_nil (h a ha)
def sL(o:Oper):Bool:=match o.op with
 |.defer _=>false
 |_=>true
theorem Gc{o:Oper}(h:sL o=true):∀c,o.op≠.defer c:=fun c e=>by unfold sL at h;rw[e]at h;cases h
theorem Ut{k k':Nat}{o:Oper}(ho:op c k=some o)(hk:k'=k.succ)(hg:o.guard=none)(h:WO P n o L w (fun L' w'=>WL P n C c k' s L' w'))(hnd:sL o=true:=by rfl):WL P n C c k s L w:=by
 intro a ha
 rw[p8 ho]
 subst hk
 refine wpListIn_plain hg fun K hK=>?_
 exact ajW C (Gc hnd) (h a ha K _ fun L' a' w' he hw=>hK _ _ (hw a' he))
theorem aiC{k k' d l:Nat}{o:Oper}{vs:List Value}{ca:Call}{fo:Operand}{xs:List Operand}(ho:op c k=some o)(hk:k'=k.succ)(hg:o.guard=none)(hd:o.dst=some d)(hop:o.op=.call ca)(cJ:ca.callee=.value fo)(hfo:oev L fo=some (.func (.yield l) #[] #[]))
  (hxs:ca.args=xs.toArray)(hvs:oevs L xs=some vs)(hn:Nat.blt d n=true){R:Value->World->Prop}(hy:YieldAt C.F 0 P l vs.toArray w fun e w'=>∃v,e=.returned v/\R v w')(h:∀v w',R v w'->WL P n C c k' s ((d,v)::L) w'):WL P n C c k s L w:=by
 intro a ha
 rw[p8 ho]
 subst hk
 refine wpListIn_plain hg fun K hK=>?_
 obtain⟨fn,tmps,assign,body,hy1,hy2⟩:=hy
 have hr:(execOp a.eval o).run P w=.ok (.round l fn tmps assign body) w:=by
  unfold execOp
  simp only[hop,resolve,cJ,ha.eval hfo,hxs,List.map_toArray,ha.lF hvs,Deferred.ofValue,Sem.run_bind,Sem.run_pure,Result.andThen_ok,invoke,Array.empty_append]
  exact hy1
 refine⟨fun f _=>C.qY f,?_⟩
 rw[Oper.semAt_eq _ _ _ (fun c e=>by rw[e]at hop;cases hop),hr,Oper.uponIn_round,hd]
 refine⟨C.tG,hy2.mono ?_⟩
 rintro e w' ⟨v,rfl,hR⟩
 exact hK _ _ (h v w' hR _ (ha.put (by simpa using hn) v))
theorem iC{fn:Func}{R:Ending->World->Prop}(hC:C.Q=bodyPost P fn R){rs:List ResultVar}(vs:List Value)(hr:fn.results=rs.toArray)(h:sJ P L w rs vs)(hR:R (.returned (tup vs)) w):NM P n C [] L w:=by
 intro a ha
 show C.Q .normal a w
 rw[hC]
 exact⟨ha.df,tup vs,vY ha hr h,hR⟩
theorem Up{f:FuncId}{fn:Func}{b:Code}{args:List Value}{w:World}{R:Ending->World->Prop}(hf:P.funcs[f]? =some fn)(hb:fn.body=some b){n:Nat}(hn:fn.ntmps=n)(hsz:Nat.ble args.length n=true)
  (h:∀C:Ctx,C.r=none->C.Q=bodyPost P fn R->WS P n C b [] (argL 0 args) w):CallsIn Fence.wide 0 P f args.toArray w R:=by
 have h1:=h ⟨bodyPost P fn R,none⟩ rfl rfl
 refine callsIn_of_wp hf hb trivial (h1 _ ⟨?_,rfl,fun t v hv=>?_⟩)
 ·simp[hn];have:args.length<=n:=by simpa using hsz
  omega
 ·have:=(yS args 0 t v hv).2
  rw[Nat.sub_zero]at this
  have hlt:=(List.getElem?_eq_some_iff.1 this).1
  simp only[Array.getD_eq_getD_getElem?]
  rw[Array.getElem?_append_left (by simpa using hlt)]
  simp[this]
theorem FZ{f:FuncId}{fn:Func}{b:Code}{args:List Value}{w:World}{R:Ending->World->Prop}(hf:P.funcs[f]? =some fn)(hb:fn.body=some b){n:Nat}(hn:fn.ntmps=n)(hsz:Nat.ble args.length n=true)
  (h:∀C:Ctx,C.r=none->C.Q=bodyPostM Fence.wide 0 P fn R->WS P n C b [] (argL 0 args) w):Calls P f args.toArray w R:=by
 have h1:=h ⟨bodyPostM Fence.wide 0 P fn R,none⟩ rfl rfl
 refine callsIn_wide.1 (callsIn_of_wp_marks hf hb trivial (h1 _ ⟨?_,rfl,fun t v hv=>?_⟩))
 ·simp[hn];have:args.length<=n:=by simpa using hsz
  omega
 ·have:=(yS args 0 t v hv).2
  rw[Nat.sub_zero]at this
  have hlt:=(List.getElem?_eq_some_iff.1 this).1
  simp only[Array.getD_eq_getD_getElem?]
  rw[Array.getElem?_append_left (by simpa using hlt)]
  simp[this]
end
section
variable {P : Program} {n : Nat} {C : Ctx} {c : Code} {s : List K} {L : List (Nat × Value)} {w : World} {M : Hp} {X : Fr} {H : List Rs}
def Iter(P:Program)(f:FuncId)(lb:List Value)(enc:Nat->Value)(N:Nat)(M:Hp)(X:Fr):Prop:=
 ∀(l:Nat) (J:Nat->Hp->Rs->Prop) (w:World) (M1:Hp) (B:Rs),M.le M1->
  (∀k M' B' w',k<N->M1.le M'->SH w' M' X [B']->J k M' B'->YieldAt Fence.wide 0 P l #[enc k] w' fun e w''=>∃v,e=.returned v/\v=.bool true/\∃pL B'',M'.le pL/\SH w'' pL X [B'']/\J (k+1) pL B'')->
  SH w M1 X [B]->J 0 M1 B->CallsIn Fence.wide 0 P f ((Value.func (.yield l) #[] #[])::lb).toArray w fun e w'=>(∃v,e=.returned v)/\∃M' B',M1.le M'/\SH w' M' X [B']/\J N M' B'
theorem G6{w:World}{l D:Nat}{rc AP:Loop}{Hs:List Rs}(S:SH w M X (Rs.lr l D rc::Hs)):SH (w.putObj l (.loop AP)) M X (Rs.lr l D AP::Hs):=by
 obtain⟨h1,h2⟩:=S.ok (Rs.lr l D rc) (by simp)
 have hne:D≠l:=fun e=>by subst e;rw[h1]at h2;cases h2
 have hlt:=iz h1
 have kS:=iz h2
 refine S.step (i:=0) (r:=Rs.lr l D rc) rfl rfl ⟨rfl,rfl,rfl,by simp[World.putObj]⟩ (fun b _ hb=>?_) ⟨World.putObj_heap_same hlt,(World.putObj_heap_other hne).trans h2⟩ (fun b hb=>⟨.inl hb,?_⟩)
 ·exact World.putObj_heap_other (fun e=>hb (by rw[e];simp[Rs.lr]))
 ·simp only[Rs.lr,List.mem_cons,List.not_mem_nil,or_false]at hb
  rcases hb with rfl|rfl<;>simp[World.putObj,hlt,kS]
theorem aii{a:Act}{p:Nat}{v:Value}(ha:Env n L a)(hp:p<n):Env n ((p,v)::L) {tmps:=a.tmps.setIfInBounds p v,defers:=[]}:=by
 have:=(ha.put hp v)
 exact⟨by simpa[Act.put]using this.sz,rfl,fun t u hu=>by have:=this.at_ t u hu;simpa[Act.put]using this⟩
theorem aha{p:Nat}{g:Operand}{asg bd:Code}{f:FuncId}{lb:List Value}{enc:Nat->Value}{N:Nat}(hr:C.r=none)(hc:c=.rangeFunc g #[p] asg bd)(hp':Nat.blt p n=true)(hg:oev L g=some (.func (.func f) #[] lb.toArray))(hen:∀args w,(callFunc f args).run P w=.ok (.enter f args) w)
  (S:SH w M X H)(I:Nat->Hp->List Rs->Prop)(I1:Nat->Act->Hp->List Rs->Prop)(h0:I 0 M H)(hit:Iter P f lb enc N M X)
  (hassign:∀(k:Nat) (M':Hp) (H':List Rs) (w':World) (C':Ctx) (R0:Rs),k<N->M.le M'->SH w' M' X (R0::H')->I k M' H'->WS P n C' asg [.lp (fun a w''=>∃pL BD,M'.le pL/\SH w'' pL X (R0::BD)/\I1 k a pL BD)] ((p,enc k)::L) w')
  (hbody:∀(k:Nat) (M':Hp) (H':List Rs) (w':World) (C':Ctx) (R0:Rs) (a:Act),k<N->M.le M'->SH w' M' X (R0::H')->I1 k a M' H'->bd.wpIn C'.F 0 P (post P C' [.lp (fun _ w''=>∃pL BD,M'.le pL/\SH w'' pL X (R0::BD)/\I (k+1) pL BD)]) a w')
  (hdone:∀(a:Act) (M':Hp) (H':List Rs) (w':World) (D l:Nat) (rc:Loop),Env n L a->M.le M'->SH w' M' X (Rs.lr l D rc::H')->I N M' H'->post P C s .normal {a with defers:=[{target:=.collected D,args:=#[]}]} w'):WS P n C c s L w:=by
 have hF:C.F=Fence.wide:=by unfold Ctx.F;rw[hr]
 intro a ha
 subst hc
 rw[hF]
 refine wpIn_rangeFunc ?_
 intro fn _
 rw[show Fence.wide.round=none from rfl]
 obtain⟨rec,hrec⟩:∃rec:LoopState->Loop,rec=fun st=>{state:=st,pending:=none,fn,tmps:=a.tmps,params:=#[p],assign:=asg,body:=bd,defers:=w.heap.size}:=⟨_,rfl⟩
 obtain⟨W1,hW1⟩:∃W1,(w.alloc (.deferred (some []))).alloc (.loop (rec .ready))=W1:=⟨_,rfl⟩
 have hL1:W1.heap[w.heap.size+1]? =some (.loop (rec .ready)):=by
  rw[<-hW1];have:=World.alloc_heap_new (w.alloc (.deferred (some []))) (.loop (rec .ready));rwa [World.size_alloc]at this
 have hK1:W1.heap[w.heap.size]? =some (.deferred (some [])):=by
  rw[<-hW1];exact(Below.heap_alloc _ _ _ (by simp)).trans (World.alloc_heap_new w _)
 have hkeep:∀b,b<w.heap.size->hp W1 b=hp w b:=fun b hb=>by
  rw[<-hW1]
  exact(yl (w.alloc (.deferred (some []))) _ b (by rw[rQ];omega)).trans (yl w _ b hb)
 have S1:SH W1 M X (Rs.lr (w.heap.size+1) w.heap.size (rec .ready)::H):=by
  have hl:gX w W1:=by rw[<-hW1];exact(ym w _).trans (ym _ _)
  refine S.cons hl hkeep ⟨hL1,hK1⟩ (fun b hb=>?_)
  have hsz:W1.heap.size=w.heap.size+2:=by rw[<-hW1,rQ,rQ]
  simp only[Rs.lr,List.mem_cons,List.not_mem_nil,or_false]at hb
  omega
 have hdf:a.defers=[]:=ha.df
 refine⟨w.heap.size+1,[{target:=.collected w.heap.size,args:=#[]}],W1,{target:=.fn (.func f) lb.toArray,args:=#[.func (.yield (w.heap.size+1)) #[] #[]]},W1,f,
  #[.func (.yield (w.heap.size+1)) #[] #[]]++lb.toArray,W1,?_,?_,fun _ _=>trivial,?_,fun h=>(by cases h),?_⟩
 ·rw[<-hW1,hrec];exact run_enterLoop_outer _ _ _ _ _
 ·simp only[resolve,ha.eval hg]
  simp[go_sem]
 ·simp[invoke,go_sem,hen]
 ·rw[show(#[.func (.yield (w.heap.size+1)) #[] #[]]++lb.toArray:Array Value)=((Value.func (.yield (w.heap.size+1)) #[] #[])::lb).toArray from by simp]
  refine(hit (w.heap.size+1) (fun k M' B=>∃H',B=Rs.aX (Rs.lr (w.heap.size+1) w.heap.size (rec .ready)::H')/\I k M' H') W1 M _ (Hp.le_refl _) ?_ S1.aX ⟨H,rfl,h0⟩).mono ?_
  ·rintro k M' B' w' hk hle SB ⟨H',rfl,hI⟩
   have S':=SB.kM
   obtain⟨hl,hD⟩:=S'.ok (Rs.lr (w.heap.size+1) w.heap.size (rec .ready)) (by simp)
   have hy:=run_yield (P:=P) (args:=#[enc k]) hl (by rw[hrec];rfl)
   rw[hrec]at hy
   refine⟨fn,_,asg,bd,hy,roundIn_of_wpIn trivial ?_⟩
   have hC':(Ctx.mk (fun _ _ _=>False) (some (w.heap.size+1))).F=Fence.wide.inRound (w.heap.size+1):=rfl
   have e1:((#[p]:Array Tmp).zip #[enc k]).foldl (fun tmps (t,a)=>tmps.setIfInBounds t a) a.tmps=a.tmps.setIfInBounds p (enc k):=by simp
   rw[<-hC']
   have hA:=hassign k M' H' w' (Ctx.mk (fun _ _ _=>False) (some (w.heap.size+1))) (Rs.lr (w.heap.size+1) w.heap.size (rec .ready)) hk hle S' hI _ (aii ha (by simpa using hp'))
   rw[e1]
   refine wpIn_mono hA ?_
   rintro e a2 w2 hq
   cases e with
   |normal=>
    obtain⟨M2,H2,hle2,S2,Bl⟩:=hq
    obtain⟨hl2,_⟩:=S2.ok (Rs.lr (w.heap.size+1) w.heap.size (rec .ready)) (by simp)
    refine⟨_,run_beginRound hl2 (by rw[hrec]),?_⟩
    have S3:=G6 (AP:={rec .ready with state:=.busy}) S2
    refine wpIn_mono (hbody k M2 H2 _ (Ctx.mk (fun _ _ _=>False) (some (w.heap.size+1))) _ a2 hk (hle.trans hle2) S3 Bl) ?_
    rintro e a3 w3 AX
    cases e with
    |normal=>
     obtain⟨M4,H4,cE,S4,hI4⟩:=AX
     obtain⟨hl4,_⟩:=S4.ok (Rs.lr (w.heap.size+1) w.heap.size {rec .ready with state:=.busy}) (by simp)
     have he:=run_endRound (P:=P) none hl4
     have S5:=G6 (AP:=rec .ready) S4
     refine⟨_,_,he,_,rfl,rfl,M4,Rs.aX (Rs.lr (w.heap.size+1) w.heap.size (rec .ready)::H4),hle2.trans cE,?_,H4,rfl,hI4⟩
     have e2:({({rec .ready with state:=.busy}:Loop)with state:=(if(none:Option Code).isNone=true then LoopState.ready else LoopState.done),pending:=none}:Loop)=rec .ready:=by rw[hrec];rfl
     rw[e2]
     exact S5.aX
    |_=>exact AX.elim
   |_=>exact hq.elim
  ·rintro e w2 ⟨⟨v,rfl⟩,M',B',hle,SB,H',rfl,hI⟩
   have S':=SB.kM
   obtain⟨hl,hD⟩:=S'.ok (Rs.lr (w.heap.size+1) w.heap.size (rec .ready)) (by simp)
   have he:=run_endLoop (P:=P) hl (by rw[hrec];simp)
   refine⟨none,w2.putObj (w.heap.size+1) (.loop {rec .ready with state:=.exhausted}),by rw[he,hrec],?_⟩
   have:=hdone a M' H' _ w.heap.size (w.heap.size+1) _ ha hle (G6 (AP:={rec .ready with state:=.exhausted}) S') hI
   rw[hdf]
   exact this
theorem aj5{l D:Nat}{rc:Loop}{Hs:List Rs}(S:SH w M X (Rs.lr l D rc::Hs)):SH (w.putObj D (.deferred none)) M X Hs:=by
 obtain⟨h1,h2⟩:=S.ok (Rs.lr l D rc) (by simp)
 have S2:SH (w.putObj D (.deferred none)) M X (Rs.emp::Hs):=S.step (i:=0) (r:=Rs.lr l D rc) rfl rfl ⟨rfl,rfl,rfl,by simp[World.putObj]⟩ (fun b _ hb=>World.putObj_heap_other (fun e=>hb (by rw[e];simp[Rs.lr]))) trivial (fun b hb=>by cases hb)
 exact S2.suf (N:=[Rs.emp])
theorem ajF{fn:Func}{R:Ending->World->Prop}(hC:C.Q=bodyPostM Fence.wide 0 P fn R){i:Nat}{o1 o2:Oper}(hc:c=.seq (.region i #[o1,o2] false) .ret){x:Operand}{T d1 d2 l D:Nat}{p:Addr}{v:Value}{dd:TypeDesc}{rc:Loop}{Hs:List Rs}{a:Act}
  (h1:o1.op=.load T x)(g1:o1.guard=none)(e1:o1.dst=some d1)(h2:o2.op=.assign (.tmp d1))(g2:o2.guard=none)(e2:o2.dst=some d2)(ha:Env n L a)(hx:oev L x=some (.pointer (some p)))(hu:P.underlying T=some dd)(hd:pO dd=true)(lY:Nat.blt d1 n=true)(nY:Nat.blt d2 n=true)
  (hres:fn.results=#[.tmp d2])(S:SH w M X (Rs.lr l D rc::Hs))(hcell:w.cell? p=some v)(hR:∀w',SH w' M X Hs->R (.returned v) w'):c.wpIn C.F 0 P C.Q {a with defers:=[{target:=.collected D,args:=#[]}]} w:=by
 subst hc
 obtain⟨_,hD⟩:=S.ok (Rs.lr l D rc) (by simp)
 have r1:(execOp a.eval o1).run P w=.ok (.value v) w:=U4 h1 hx hu hd hcell n a ha
 have ha1:=ha.put (d:=d1) (by simpa using lY) v
 have r2:(execOp (a.put (some d1) v).eval o2).run P w=.ok (.value v) w:=run_assign h2 (by simp[oev,lk]) n _ ha1
 have ha2:=ha1.put (d:=d2) (by simpa using nY) v
 refine wpIn_seq ?_
 refine wpIn_region_list ?_
 show wpListIn C.F 0 P #[o1,o2] _ [o1,o2] _ w
 refine wpListIn_plain g1 fun K hK=>?_
 refine⟨fun f _=>C.qY f,?_⟩
 rw[Oper.semAt_eq _ _ _ (fun c e=>by rw[e]at h1;cases h1),show(execOp ({a with defers:=[{target:=.collected D,args:=#[]}]}:Act).eval o1).run P w=.ok (.value v) w from r1,Oper.uponIn_value,e1]
 refine hK _ _ ?_
 refine wpListIn_plain g2 fun K2 hK2=>?_
 refine⟨fun f _=>C.qY f,?_⟩
 rw[Oper.semAt_eq _ _ _ (fun c e=>by rw[e]at h2;cases h2),show(execOp (({a with defers:=[{target:=.collected D,args:=#[]}]}:Act).put (some d1) v).eval o2).run P w=.ok (.value v) w from r2,Oper.uponIn_value,e2]
 refine hK2 _ _ ?_
 refine wpListIn_nil ?_
 refine wpIn_ret ?_
 rw[hC]
 refine⟨by simp,.inl ⟨D,_,rfl,run_takeDeferred hD,?_⟩⟩
 refine⟨v,?_,hR _ (aj5 S)⟩
 have hz:=ha.sz
 have hd2:d2<n:=by simpa using nY
 simp only[Act.put]
 simp[results,hres]
 intro h
 omega
end
end InF
end Go.Proofs.YthppkofceancjaaGreat
namespace Go.Proofs.YthppkofceancjaaGreat
open Go.ChangeShapes Go.WideShapes Go.ChangeAt Go.RowKit
theorem bg:(Tryz.prog.info? 3).map (·.size)=some 1:=by kernel_rfl
theorem aC:Nat.blt 0 (Tryz.prog.cellsOf 3)=true:=by kernel_rfl
theorem aB:∃i,Tryz.prog.info? 3=some i:=Option.isSome_iff_exists.1 (by kernel_rfl)
theorem zr3:(Tryz.prog.info? 3).map (·.zero)=some (some (.int .i64 0)):=by kernel_rfl
theorem xU:(Tryz.prog.info? 4).map (·.size)=some 1:=by kernel_rfl
theorem gI:Nat.blt 0 (Tryz.prog.cellsOf 4)=true:=by kernel_rfl
theorem gH:∃i,Tryz.prog.info? 4=some i:=Option.isSome_iff_exists.1 (by kernel_rfl)
theorem Q0:(Tryz.prog.info? 4).map (·.zero)=some (some (.bool false)):=by kernel_rfl
theorem mv:(Tryz.prog.info? 22).map (·.size)=some 1:=by kernel_rfl
theorem bK:Nat.blt 0 (Tryz.prog.cellsOf 22)=true:=by kernel_rfl
theorem bJ:∃i,Tryz.prog.info? 22=some i:=Option.isSome_iff_exists.1 (by kernel_rfl)
theorem aA:(Tryz.prog.info? 24).map (·.size)=some 2:=by kernel_rfl
theorem fE:Nat.blt 0 (Tryz.prog.cellsOf 24)=true:=by kernel_rfl
theorem fD:∃i,Tryz.prog.info? 24=some i:=Option.isSome_iff_exists.1 (by kernel_rfl)
theorem fR:(Tryz.prog.info? 24).map (·.zero)=some (some (.agg [.slice none 0 0,.int .i64 0].toArray)):=by kernel_rfl
theorem dI:qQ Tryz.prog 24 [(0,1),(1,1)] [.slice none 0 0,.int .i64 0]:=⟨_,ay,by kernel_rfl,⟨⟨rfl,by kernel_rfl⟩,⟨rfl,by kernel_rfl⟩,trivial⟩⟩
theorem cC:(Tryz.prog.info? 26).map (·.size)=some 2:=by kernel_rfl
theorem gD:Nat.blt 0 (Tryz.prog.cellsOf 26)=true:=by kernel_rfl
theorem gA:∃i,Tryz.prog.info? 26=some i:=Option.isSome_iff_exists.1 (by kernel_rfl)
theorem nN:(Tryz.prog.info? 26).map (·.zero)=some (some (.agg [.int .i64 0,.bool false].toArray)):=by kernel_rfl
theorem zD:qQ Tryz.prog 26 [(0,1),(1,1)] [.int .i64 0,.bool false]:=⟨_,aZ,by kernel_rfl,⟨⟨rfl,by kernel_rfl⟩,⟨rfl,by kernel_rfl⟩,trivial⟩⟩
theorem fH:(Tryz.prog.info? 28).map (·.size)=some 8:=by kernel_rfl
theorem sK:(Tryz.prog.info? 28).map (·.zero)=some (some (.agg [.int .i64 0,.int .i64 0,.int .i64 0,.int .i64 0,.bool false,.int .i64 0,.bool false,.bool false].toArray)):=by kernel_rfl
theorem xj:qQ Tryz.prog 28 [(0,1),(1,1),(2,1),(3,2),(5,2),(7,1)] [.int .i64 0,.int .i64 0,.int .i64 0,.int .i64 0,.bool false,.int .i64 0,.bool false,.bool false]:=⟨_,aT,by kernel_rfl,⟨⟨rfl,by kernel_rfl⟩,⟨rfl,by kernel_rfl⟩,⟨rfl,by kernel_rfl⟩,⟨rfl,by kernel_rfl⟩,⟨rfl,by kernel_rfl⟩,⟨rfl,by kernel_rfl⟩,trivial⟩⟩
theorem zC:(Tryz.prog.info? 29).map (·.size)=some 1:=by kernel_rfl
theorem apD:Nat.blt 0 (Tryz.prog.cellsOf 29)=true:=by kernel_rfl
theorem aod:∃i,Tryz.prog.info? 29=some i:=Option.isSome_iff_exists.1 (by kernel_rfl)
theorem adP:(Tryz.prog.info? 29).map (·.zero)=some (some (.int .i64 0)):=by kernel_rfl
theorem ad3:(Tryz.prog.info? 53).map (·.size)=some 1:=by kernel_rfl
theorem adN:(Tryz.prog.info? 53).map (·.zero)=some (some (.slice none 0 0)):=by kernel_rfl
theorem an6:(Tryz.prog.info? 62).map (·.size)=some 1:=by kernel_rfl
theorem anI:(Tryz.prog.info? 62).map (·.zero)=some (some (.agg [.int .i64 0].toArray)):=by kernel_rfl
theorem an8:qQ Tryz.prog 62 [(0,1)] [.int .i64 0]:=⟨_,Dr,by kernel_rfl,⟨⟨rfl,by kernel_rfl⟩,trivial⟩⟩
theorem dK:Nat.blt 0 (Tryz.prog.cellsOf 64)=true:=by kernel_rfl
theorem dJ:∃i,Tryz.prog.info? 64=some i:=Option.isSome_iff_exists.1 (by kernel_rfl)
theorem an5:(Tryz.prog.info? 65).map (·.size)=some 1:=by kernel_rfl
theorem DR:Nat.blt 0 (Tryz.prog.cellsOf 65)=true:=by kernel_rfl
theorem Du:∃i,Tryz.prog.info? 65=some i:=Option.isSome_iff_exists.1 (by kernel_rfl)
theorem anH:(Tryz.prog.info? 65).map (·.zero)=some (some (.slice none 0 0)):=by kernel_rfl
theorem an7:qQ Tryz.prog 67 [(0,1),(1,1)] [.pointer none,.slice none 0 0]:=⟨_,cV,by kernel_rfl,⟨⟨rfl,by kernel_rfl⟩,⟨rfl,by kernel_rfl⟩,trivial⟩⟩
theorem oW:Nat.blt 0 (Tryz.prog.cellsOf 68)=true:=by kernel_rfl
theorem oL:∃i,Tryz.prog.info? 68=some i:=Option.isSome_iff_exists.1 (by kernel_rfl)
theorem cg:(Tryz.prog.info? 77).map (·.size)=some 5:=by kernel_rfl
theorem lG:(Tryz.prog.info? 77).map (·.zero)=some (some (.agg [.int .i64 0,.int .i64 0,.int .i64 0,.int .i64 0,.bool false].toArray)):=by kernel_rfl
theorem mY:qQ Tryz.prog 77 [(0,1),(1,1),(2,1),(3,1),(4,1)] [.int .i64 0,.int .i64 0,.int .i64 0,.int .i64 0,.bool false]:=⟨_,aW,by kernel_rfl,⟨⟨rfl,by kernel_rfl⟩,⟨rfl,by kernel_rfl⟩,⟨rfl,by kernel_rfl⟩,⟨rfl,by kernel_rfl⟩,⟨rfl,by kernel_rfl⟩,trivial⟩⟩
theorem gM:(Tryz.prog.info? 120).map (·.size)=some 2:=by kernel_rfl
theorem nJ:(Tryz.prog.info? 120).map (·.zero)=some (some (.agg [.int .i64 0,.int .i64 0].toArray)):=by kernel_rfl
theorem pN:qQ Tryz.prog 120 [(0,1),(1,1)] [.int .i64 0,.int .i64 0]:=⟨_,dH,by kernel_rfl,⟨⟨rfl,by kernel_rfl⟩,⟨rfl,by kernel_rfl⟩,trivial⟩⟩
theorem gh:(Tryz.prog.info? 128).map (·.size)=some 2:=by kernel_rfl
theorem kL:(Tryz.prog.info? 128).map (·.zero)=some (some (.agg [.int .i64 0,.int .i64 0].toArray)):=by kernel_rfl
theorem oD:(Tryz.prog.info? 150).map (·.size)=some 3:=by kernel_rfl
theorem r9:(Tryz.prog.info? 150).map (·.zero)=some (some (.agg [.int .i64 0,.int .i64 0,.int .i64 0].toArray)):=by kernel_rfl
theorem eA:(Tryz.prog.info? 190).map (·.size)=some 2:=by kernel_rfl
theorem oC:(Tryz.prog.info? 190).map (·.zero)=some (some (.agg [.int .i64 0,.int .i64 0].toArray)):=by kernel_rfl
theorem H6:qQ Tryz.prog 190 [(0,1),(1,1)] [.int .i64 0,.int .i64 0]:=⟨_,cO,by kernel_rfl,⟨⟨rfl,by kernel_rfl⟩,⟨rfl,by kernel_rfl⟩,trivial⟩⟩
theorem al5:(Tryz.prog.info? 192).map (·.size)=some 1:=by kernel_rfl
theorem alO:(Tryz.prog.info? 192).map (·.zero)=some (some (.map none)):=by kernel_rfl
theorem adf:(Tryz.prog.info? 208).map (·.size)=some 4:=by kernel_rfl
theorem HR:(Tryz.prog.info? 208).map (·.zero)=some (some (.agg [.int .i64 0,.int .i64 0,.int .i64 0,.int .i64 0].toArray)):=by kernel_rfl
theorem ade:(Tryz.prog.info? 222).map (·.size)=some 4:=by kernel_rfl
theorem ac1:(Tryz.prog.info? 222).map (·.zero)=some (some (.agg [.int .i64 0,.int .i64 0,.int .i64 0,.int .i64 0].toArray)):=by kernel_rfl
theorem alN:(Tryz.prog.info? 249).map (·.zero)=some (some (.agg [.bool false,.bool false].toArray)):=by kernel_rfl
theorem sj:(Tryz.prog.info? 251).map (·.size)=some 1:=by kernel_rfl
theorem CV:(Tryz.prog.info? 252).map (·.zero)=some (some (.agg [.pointer none,.pointer none,.pointer none,.pointer none].toArray)):=by kernel_rfl
theorem cf8:∀args w,(callFunc 8 args).run Tryz.prog w=.ok (.enter 8 args) w:=Uo (c:=Tryz.f8.body.getD .skip) Tryz.func8 (by decide) rfl
theorem Bt:∀args w,(callFunc 9 args).run Tryz.prog w=.ok (.enter 9 args) w:=Uo (c:=Tryz.f9.body.getD .skip) Tryz.func9 (by decide) rfl
theorem apC:∀args w,(callFunc 10 args).run Tryz.prog w=.ok (.enter 10 args) w:=Uo (c:=Tryz.f10.body.getD .skip) Tryz.func10 (by decide) rfl
theorem apB:∀args w,(callFunc 11 args).run Tryz.prog w=.ok (.enter 11 args) w:=Uo (c:=Tryz.f11.body.getD .skip) Tryz.func11 (by decide) rfl
theorem apA:∀args w,(callFunc 14 args).run Tryz.prog w=.ok (.enter 14 args) w:=Uo (c:=Tryz.f14.body.getD .skip) Tryz.func14 (by decide) rfl
theorem apz:∀args w,(callFunc 15 args).run Tryz.prog w=.ok (.enter 15 args) w:=Uo (c:=Tryz.f15.body.getD .skip) Tryz.func15 (by decide) rfl
theorem apy:∀args w,(callFunc 25 args).run Tryz.prog w=.ok (.enter 25 args) w:=Uo (c:=Tryz.f25.body.getD .skip) Tryz.func25 (by decide) rfl
theorem JD:∀args w,(callFunc 28 args).run Tryz.prog w=.ok (.enter 28 args) w:=Uo (c:=Tryz.f28.body.getD .skip) Tryz.func28 (by decide) rfl
theorem aeU:∀args w,(callFunc 29 args).run Tryz.prog w=.ok (.enter 29 args) w:=Uo (c:=Tryz.f29.body.getD .skip) Tryz.func29 (by decide) rfl
theorem aeT:∀args w,(callFunc 30 args).run Tryz.prog w=.ok (.enter 30 args) w:=Uo (c:=Tryz.f30.body.getD .skip) Tryz.func30 (by decide) rfl
theorem aeS:∀args w,(callFunc 31 args).run Tryz.prog w=.ok (.enter 31 args) w:=Uo (c:=Tryz.f31.body.getD .skip) Tryz.func31 (by decide) rfl
theorem aeR:∀args w,(callFunc 32 args).run Tryz.prog w=.ok (.enter 32 args) w:=Uo (c:=Tryz.f32.body.getD .skip) Tryz.func32 (by decide) rfl
theorem apx:∀args w,(callFunc 33 args).run Tryz.prog w=.ok (.enter 33 args) w:=Uo (c:=Tryz.f33.body.getD .skip) Tryz.func33 (by decide) rfl
theorem aeQ:∀args w,(callFunc 34 args).run Tryz.prog w=.ok (.enter 34 args) w:=Uo (c:=Tryz.f34.body.getD .skip) Tryz.func34 (by decide) rfl
theorem aeP:∀args w,(callFunc 35 args).run Tryz.prog w=.ok (.enter 35 args) w:=Uo (c:=Tryz.f35.body.getD .skip) Tryz.func35 (by decide) rfl
theorem DN:∀args w,(callFunc 36 args).run Tryz.prog w=.ok (.enter 36 args) w:=Uo (c:=Tryz.f36.body.getD .skip) Tryz.func36 (by decide) rfl
theorem apw:∀args w,(callFunc 37 args).run Tryz.prog w=.ok (.enter 37 args) w:=Uo (c:=Tryz.f37.body.getD .skip) Tryz.func37 (by decide) rfl
theorem aeO:∀args w,(callFunc 38 args).run Tryz.prog w=.ok (.enter 38 args) w:=Uo (c:=Tryz.f38.body.getD .skip) Tryz.func38 (by decide) rfl
theorem apv:∀args w,(callFunc 39 args).run Tryz.prog w=.ok (.enter 39 args) w:=Uo (c:=Tryz.f39.body.getD .skip) Tryz.func39 (by decide) rfl
theorem apu:∀args w,(callFunc 40 args).run Tryz.prog w=.ok (.enter 40 args) w:=Uo (c:=Tryz.f40.body.getD .skip) Tryz.func40 (by decide) rfl
theorem apt:∀args w,(callFunc 41 args).run Tryz.prog w=.ok (.enter 41 args) w:=Uo (c:=Tryz.f41.body.getD .skip) Tryz.func41 (by decide) rfl
theorem mE:∀args w,(callFunc 60 args).run Tryz.prog w=.ok (.enter 60 args) w:=Uo (c:=Tryz.f60.body.getD .skip) Tryz.func60 (by decide) rfl
theorem aps:∀args w,(callFunc 64 args).run Tryz.prog w=.ok (.enter 64 args) w:=Uo (c:=Tryz.f64.body.getD .skip) Tryz.func64 (by decide) rfl
theorem apr:∀args w,(callFunc 65 args).run Tryz.prog w=.ok (.enter 65 args) w:=Uo (c:=Tryz.f65.body.getD .skip) Tryz.func65 (by decide) rfl
theorem aeN:∀args w,(callFunc 66 args).run Tryz.prog w=.ok (.enter 66 args) w:=Uo (c:=Tryz.f66.body.getD .skip) Tryz.func66 (by decide) rfl
theorem apq:∀args w,(callFunc 67 args).run Tryz.prog w=.ok (.enter 67 args) w:=Uo (c:=Tryz.f67.body.getD .skip) Tryz.func67 (by decide) rfl
theorem apo:∀args w,(callFunc 68 args).run Tryz.prog w=.ok (.enter 68 args) w:=Uo (c:=Tryz.f68.body.getD .skip) Tryz.func68 (by decide) rfl
theorem apn:∀args w,(callFunc 69 args).run Tryz.prog w=.ok (.enter 69 args) w:=Uo (c:=Tryz.f69.body.getD .skip) Tryz.func69 (by decide) rfl
theorem apm:∀args w,(callFunc 70 args).run Tryz.prog w=.ok (.enter 70 args) w:=Uo (c:=Tryz.f70.body.getD .skip) Tryz.func70 (by decide) rfl
theorem apl:∀args w,(callFunc 71 args).run Tryz.prog w=.ok (.enter 71 args) w:=Uo (c:=Tryz.f71.body.getD .skip) Tryz.func71 (by decide) rfl
theorem qO:∀args w,(callFunc 72 args).run Tryz.prog w=.ok (.enter 72 args) w:=Uo (c:=Tryz.f72.body.getD .skip) Tryz.func72 (by decide) rfl
theorem aeM:∀args w,(callFunc 73 args).run Tryz.prog w=.ok (.enter 73 args) w:=Uo (c:=Tryz.f73.body.getD .skip) Tryz.func73 (by decide) rfl
theorem DM:∀args w,(callFunc 74 args).run Tryz.prog w=.ok (.enter 74 args) w:=Uo (c:=Tryz.f74.body.getD .skip) Tryz.func74 (by decide) rfl
theorem uZ:∀args w,(callFunc 75 args).run Tryz.prog w=.ok (.enter 75 args) w:=Uo (c:=Tryz.f75.body.getD .skip) Tryz.func75 (by decide) rfl
theorem apk:∀args w,(callFunc 76 args).run Tryz.prog w=.ok (.enter 76 args) w:=Uo (c:=Tryz.f76.body.getD .skip) Tryz.func76 (by decide) rfl
theorem aeL:∀args w,(callFunc 77 args).run Tryz.prog w=.ok (.enter 77 args) w:=Uo (c:=Tryz.f77.body.getD .skip) Tryz.func77 (by decide) rfl
theorem apj:∀args w,(callFunc 78 args).run Tryz.prog w=.ok (.enter 78 args) w:=Uo (c:=Tryz.f78.body.getD .skip) Tryz.func78 (by decide) rfl
theorem aeK:∀args w,(callFunc 79 args).run Tryz.prog w=.ok (.enter 79 args) w:=Uo (c:=Tryz.f79.body.getD .skip) Tryz.func79 (by decide) rfl
theorem aeJ:∀args w,(callFunc 80 args).run Tryz.prog w=.ok (.enter 80 args) w:=Uo (c:=Tryz.f80.body.getD .skip) Tryz.func80 (by decide) rfl
theorem JC:∀args w,(callFunc 81 args).run Tryz.prog w=.ok (.enter 81 args) w:=Uo (c:=Tryz.f81.body.getD .skip) Tryz.func81 (by decide) rfl
theorem aph:∀args w,(callFunc 87 args).run Tryz.prog w=.ok (.enter 87 args) w:=Uo (c:=Tryz.f87.body.getD .skip) Tryz.func87 (by decide) rfl
theorem anA:∀args w,(callFunc 105 args).run Tryz.prog w=.ok (.enter 105 args) w:=Uo (c:=Tryz.f105.body.getD .skip) Tryz.func105 (by decide) rfl
theorem II:∀args w,(callFunc 106 args).run Tryz.prog w=.ok (.enter 106 args) w:=Uo (c:=Tryz.f106.body.getD .skip) Tryz.func106 (by decide) rfl
theorem anz:∀args w,(callFunc 107 args).run Tryz.prog w=.ok (.enter 107 args) w:=Uo (c:=Tryz.f107.body.getD .skip) Tryz.func107 (by decide) rfl
theorem anx:∀args w,(callFunc 108 args).run Tryz.prog w=.ok (.enter 108 args) w:=Uo (c:=Tryz.f108.body.getD .skip) Tryz.func108 (by decide) rfl
theorem eD:∀args w,(callFunc 109 args).run Tryz.prog w=.ok (.enter 109 args) w:=Uo (c:=Tryz.f109.body.getD .skip) Tryz.func109 (by decide) rfl
theorem Di:∀args w,(callFunc 110 args).run Tryz.prog w=.ok (.enter 110 args) w:=Uo (c:=Tryz.f110.body.getD .skip) Tryz.func110 (by decide) rfl
theorem sG:∀args w,(callFunc 111 args).run Tryz.prog w=.ok (.enter 111 args) w:=Uo (c:=Tryz.f111.body.getD .skip) Tryz.func111 (by decide) rfl
theorem Dh:∀args w,(callFunc 112 args).run Tryz.prog w=.ok (.enter 112 args) w:=Uo (c:=Tryz.f112.body.getD .skip) Tryz.func112 (by decide) rfl
theorem adH:∀args w,(callFunc 113 args).run Tryz.prog w=.ok (.enter 113 args) w:=Uo (c:=Tryz.f113.body.getD .skip) Tryz.func113 (by decide) rfl
theorem IG:∀args w,(callFunc 114 args).run Tryz.prog w=.ok (.enter 114 args) w:=Uo (c:=Tryz.f114.body.getD .skip) Tryz.func114 (by decide) rfl
theorem Df:∀args w,(callFunc 115 args).run Tryz.prog w=.ok (.enter 115 args) w:=Uo (c:=Tryz.f115.body.getD .skip) Tryz.func115 (by decide) rfl
theorem De:∀args w,(callFunc 116 args).run Tryz.prog w=.ok (.enter 116 args) w:=Uo (c:=Tryz.f116.body.getD .skip) Tryz.func116 (by decide) rfl
theorem adG:∀args w,(callFunc 117 args).run Tryz.prog w=.ok (.enter 117 args) w:=Uo (c:=Tryz.f117.body.getD .skip) Tryz.func117 (by decide) rfl
theorem anw:∀args w,(callFunc 118 args).run Tryz.prog w=.ok (.enter 118 args) w:=Uo (c:=Tryz.f118.body.getD .skip) Tryz.func118 (by decide) rfl
theorem adF:∀args w,(callFunc 119 args).run Tryz.prog w=.ok (.enter 119 args) w:=Uo (c:=Tryz.f119.body.getD .skip) Tryz.func119 (by decide) rfl
theorem adE:∀args w,(callFunc 120 args).run Tryz.prog w=.ok (.enter 120 args) w:=Uo (c:=Tryz.f120.body.getD .skip) Tryz.func120 (by decide) rfl
theorem adD:∀args w,(callFunc 121 args).run Tryz.prog w=.ok (.enter 121 args) w:=Uo (c:=Tryz.f121.body.getD .skip) Tryz.func121 (by decide) rfl
theorem IE:∀args w,(callFunc 122 args).run Tryz.prog w=.ok (.enter 122 args) w:=Uo (c:=Tryz.f122.body.getD .skip) Tryz.func122 (by decide) rfl
theorem adC:∀args w,(callFunc 123 args).run Tryz.prog w=.ok (.enter 123 args) w:=Uo (c:=Tryz.f123.body.getD .skip) Tryz.func123 (by decide) rfl
theorem anv:∀args w,(callFunc 124 args).run Tryz.prog w=.ok (.enter 124 args) w:=Uo (c:=Tryz.f124.body.getD .skip) Tryz.func124 (by decide) rfl
theorem IC:∀args w,(callFunc 125 args).run Tryz.prog w=.ok (.enter 125 args) w:=Uo (c:=Tryz.f125.body.getD .skip) Tryz.func125 (by decide) rfl
theorem IB:∀args w,(callFunc 126 args).run Tryz.prog w=.ok (.enter 126 args) w:=Uo (c:=Tryz.f126.body.getD .skip) Tryz.func126 (by decide) rfl
theorem anu:∀args w,(callFunc 127 args).run Tryz.prog w=.ok (.enter 127 args) w:=Uo (c:=Tryz.f127.body.getD .skip) Tryz.func127 (by decide) rfl
theorem Dd:∀args w,(callFunc 128 args).run Tryz.prog w=.ok (.enter 128 args) w:=Uo (c:=Tryz.f128.body.getD .skip) Tryz.func128 (by decide) rfl
theorem Dc:∀args w,(callFunc 129 args).run Tryz.prog w=.ok (.enter 129 args) w:=Uo (c:=Tryz.f129.body.getD .skip) Tryz.func129 (by decide) rfl
theorem adA:∀args w,(callFunc 130 args).run Tryz.prog w=.ok (.enter 130 args) w:=Uo (c:=Tryz.f130.body.getD .skip) Tryz.func130 (by decide) rfl
theorem ant:∀args w,(callFunc 131 args).run Tryz.prog w=.ok (.enter 131 args) w:=Uo (c:=Tryz.f131.body.getD .skip) Tryz.func131 (by decide) rfl
theorem adz:∀args w,(callFunc 133 args).run Tryz.prog w=.ok (.enter 133 args) w:=Uo (c:=Tryz.f133.body.getD .skip) Tryz.func133 (by decide) rfl
theorem ans:∀args w,(callFunc 136 args).run Tryz.prog w=.ok (.enter 136 args) w:=Uo (c:=Tryz.f136.body.getD .skip) Tryz.func136 (by decide) rfl
theorem Db:∀args w,(callFunc 137 args).run Tryz.prog w=.ok (.enter 137 args) w:=Uo (c:=Tryz.f137.body.getD .skip) Tryz.func137 (by decide) rfl
theorem anr:∀args w,(callFunc 138 args).run Tryz.prog w=.ok (.enter 138 args) w:=Uo (c:=Tryz.f138.body.getD .skip) Tryz.func138 (by decide) rfl
theorem anq:∀args w,(callFunc 139 args).run Tryz.prog w=.ok (.enter 139 args) w:=Uo (c:=Tryz.f139.body.getD .skip) Tryz.func139 (by decide) rfl
theorem anp:∀args w,(callFunc 143 args).run Tryz.prog w=.ok (.enter 143 args) w:=Uo (c:=Tryz.f143.body.getD .skip) Tryz.func143 (by decide) rfl
theorem ano:∀args w,(callFunc 149 args).run Tryz.prog w=.ok (.enter 149 args) w:=Uo (c:=Tryz.f149.body.getD .skip) Tryz.func149 (by decide) rfl
theorem anm:∀args w,(callFunc 163 args).run Tryz.prog w=.ok (.enter 163 args) w:=Uo (c:=Tryz.f163.body.getD .skip) Tryz.func163 (by decide) rfl
theorem anl:∀args w,(callFunc 164 args).run Tryz.prog w=.ok (.enter 164 args) w:=Uo (c:=Tryz.f164.body.getD .skip) Tryz.func164 (by decide) rfl
theorem ank:∀args w,(callFunc 165 args).run Tryz.prog w=.ok (.enter 165 args) w:=Uo (c:=Tryz.f165.body.getD .skip) Tryz.func165 (by decide) rfl
theorem anj:∀args w,(callFunc 166 args).run Tryz.prog w=.ok (.enter 166 args) w:=Uo (c:=Tryz.f166.body.getD .skip) Tryz.func166 (by decide) rfl
theorem ani:∀args w,(callFunc 167 args).run Tryz.prog w=.ok (.enter 167 args) w:=Uo (c:=Tryz.f167.body.getD .skip) Tryz.func167 (by decide) rfl
theorem anh:∀args w,(callFunc 168 args).run Tryz.prog w=.ok (.enter 168 args) w:=Uo (c:=Tryz.f168.body.getD .skip) Tryz.func168 (by decide) rfl
theorem C9:∀args w,(callFunc 169 args).run Tryz.prog w=.ok (.enter 169 args) w:=Uo (c:=Tryz.f169.body.getD .skip) Tryz.func169 (by decide) rfl
theorem ang:∀args w,(callFunc 170 args).run Tryz.prog w=.ok (.enter 170 args) w:=Uo (c:=Tryz.f170.body.getD .skip) Tryz.func170 (by decide) rfl
end Go.Proofs.YthppkofceancjaaGreat
namespace Go.Proofs.YthppkofceancjaaGreat
open Go.ChangeShapes Go.WideShapes Go.ChangeAt Go.RowKit
theorem nX:qX Tryz.prog 3 (Value.int .i64):=ai4 av
theorem zE:Ae Tryz.prog 26 [(0,false),(1,true)]:=⟨[_,_],aZ,⟨⟨by kernel_rfl,rfl,⟨_,av⟩⟩,⟨by kernel_rfl,rfl,dL⟩,trivial⟩,by kernel_rfl,by kernel_rfl⟩
theorem al7:Ae Tryz.prog 190 [(0,false),(1,false)]:=⟨[_,_],cO,⟨⟨by kernel_rfl,rfl,⟨_,av⟩⟩,⟨by kernel_rfl,rfl,⟨_,av⟩⟩,trivial⟩,by kernel_rfl,by kernel_rfl⟩
theorem bA:ky Tryz.prog 53 Uv:=⟨.int .i64 0,dY,by kernel_rfl,rfl,by decide,by decide⟩
theorem kr:ky Tryz.prog 65 (di 141):=⟨.slice none 0 0,mr,by kernel_rfl,rfl,by decide,by decide⟩
theorem CY:ky Tryz.prog 103 (di 53):=⟨.slice none 0 0,CX,by kernel_rfl,rfl,by decide,by decide⟩
theorem nL:ky Tryz.prog 130 ib:=⟨.bool false,al2,by kernel_rfl,rfl,by decide,by decide⟩
end Go.Proofs.YthppkofceancjaaGreat
namespace Go.Proofs.YthppkofceancjaaGreat
open Go.ChangeShapes Go.WideShapes Go.ChangeAt Go.RowKit
def md(x:Int):Int:=x%18446744073709551616
theorem ac3{x y:Int}:wr x=wr y<->md x=md y:=by unfold wr md;rw[IntKind.wrap_i64,IntKind.wrap_i64];omega
theorem adl(x:Int):md (wr x)=md x:=by unfold wr md;rw[IntKind.wrap_i64];omega
theorem ajz(x:Int):wr (wr x)=wr x:=ac3.2 (adl x)
theorem G5{a b c d:Int}(h:md a=md b)(k:md c=md d):md (a+c)=md (b+d):=by
 unfold md at*;omega
theorem ak4{a b:Int}(h:md a=md b):md (-a)=md (-b):=by
 unfold md at*;omega
theorem ak5{a b c d:Int}(h:md a=md b)(k:md c=md d):md (a*c)=md (b*d):=by
 unfold md at*
 rw[Int.mul_emod,h,k,<-Int.mul_emod]
theorem abG(x y:Int):wr (x+wr y)=wr (x+y):=ac3.2 (G5 rfl (adl y))
abbrev gU:=List (Int×Int)
def ev:gU->(Int->Int)->Int
 |[],_=>0
 |p::r,φ=>p.2*φ (wr p.1)+ev r φ
theorem vS(P Q:gU)(φ:Int->Int):ev (P++Q) φ=ev P φ+ev Q φ:=by
 induction P with
 |nil=>simp[ev]
 |cons p P ih=>simp only[List.cons_append,ev,ih];omega
theorem acW(P:gU)(φ ψ:Int->Int):ev P (fun x=>φ x+ψ x)=ev P φ+ev P ψ:=by
 induction P with
 |nil=>rfl
 |cons p P ih=>simp only[ev,ih,Int.mul_add];omega
theorem ach(P:gU):ev P (fun _=>0)=0:=by
 induction P with
 |nil=>rfl
 |cons p P ih=>simp only[ev,ih];omega
theorem alv(P:gU)(c:Int)(φ:Int->Int):ev P (fun x=>c*φ x)=c*ev P φ:=by
 induction P with
 |nil=>simp[ev]
 |cons p P ih=>simp only[ev,ih,Int.mul_add,Int.mul_left_comm]
theorem akd(P Q:gU)(ψ:Int->Int->Int):ev P (fun x=>ev Q (ψ x))=ev Q (fun y=>ev P (fun x=>ψ x y)):=by
 induction P with
 |nil=>simp only[ev];rw[ach]
 |cons p P ih=>simp only[ev];rw[ih,acW,alv]
theorem ake(P:gU){φ ψ:Int->Int}(h:∀x,md (φ x)=md (ψ x)):md (ev P φ)=md (ev P ψ):=by
 induction P with
 |nil=>rfl
 |cons p P ih=>exact G5 (ak5 rfl (h _)) ih
theorem acV(P:gU)(f:Int×Int->Int×Int)(c:Int)(g:Int->Int)(hf:∀p,(f p).2=p.2*c)(hg:∀p:Int×Int,wr (f p).1=g (wr p.1))(φ:Int->Int):ev (P.map f) φ=c*ev P (fun x=>φ (g x)):=by
 induction P with
 |nil=>simp[ev]
 |cons p P ih=>simp only[List.map_cons,ev,ih,hf,hg,Int.mul_add];rw[Int.mul_comm p.2 c,Int.mul_assoc]
def eqv(P Q:gU):Prop:=∀φ,md (ev P φ)=md (ev Q φ)
theorem eqv.refl(P:gU):eqv P P:=fun _=>rfl
theorem eqv.symm{P Q:gU}(h:eqv P Q):eqv Q P:=fun φ=>(h φ).symm
theorem eqv.trans{P Q R:gU}(h:eqv P Q)(k:eqv Q R):eqv P R:=fun φ=>(h φ).trans (k φ)
def zF(P:gU):gU:=P.map fun p=>(p.1,-p.2)
theorem aci(P:gU)(φ:Int->Int):ev (zF P) φ=-ev P φ:=by
 have:=acV P (fun p=>(p.1,-p.2)) (-1) id (fun p=>by simp only;omega) (fun p=>rfl) φ
 unfold zF
 rw[this]
 show -1*ev P φ=_
 omega
def zn(P Q:gU):gU:=P.flatMap fun p=>Q.map fun q=>(p.1+q.1,p.2*q.2)
theorem tJ(P Q:gU)(φ:Int->Int):ev (zn P Q) φ=ev P (fun x=>ev Q (fun y=>φ (wr (x+y)))):=by
 induction P with
 |nil=>rfl
 |cons p P ih=>
  have e:∀Q:gU,ev (Q.map fun q=>(p.1+q.1,p.2*q.2)) φ=p.2*ev Q (fun y=>φ (wr (wr p.1+y))):=fun Q=>by
   have:=acV Q (fun q=>(p.1+q.1,p.2*q.2)) p.2 (fun y=>wr (wr p.1+y)) (fun q=>Int.mul_comm _ _) (fun q=>by simp only;rw[abG,ac2]) φ
   exact this
  show ev ((Q.map fun q=>(p.1+q.1,p.2*q.2))++zn P Q) φ=_
  rw[vS,ih,e]
  rfl
theorem ahJ{P P' Q Q':gU}(h:eqv P P')(k:eqv Q Q'):eqv (P++Q) (P'++Q'):=fun φ=>by
 rw[vS,vS];exact G5 (h φ) (k φ)
theorem ajd{P P' Q Q':gU}(h:eqv P P')(k:eqv Q Q'):eqv (zn P Q) (zn P' Q'):=fun φ=>by
 rw[tJ,tJ]
 exact(h _).trans (ake _ fun x=>k _)
theorem akf{P P':gU}(h:eqv P P'):eqv (zF P) (zF P'):=fun φ=>by
 rw[aci,aci];exact ak4 (h φ)
def qz:Setoid gU:=⟨eqv,eqv.refl,eqv.symm,eqv.trans⟩
def bp:=Quotient qz
def mk(P:gU):bp:=Quotient.mk qz P
theorem mk_eq{P Q:gU}(h:eqv P Q):mk P=mk Q:=Quotient.sound (s:=qz) h
theorem bp.ind{p:bp->Prop}(h:∀P,p (mk P))(x:bp):p x:=Quotient.ind (s:=qz) h x
def bp.add(x y:bp):bp:=Quotient.liftOn₂ (s₁:=qz) (s₂:=qz) x y (fun P Q=>mk (P++Q)) fun _ _ _ _ h k=>mk_eq (ahJ h k)
def bp.mul(x y:bp):bp:=Quotient.liftOn₂ (s₁:=qz) (s₂:=qz) x y (fun P Q=>mk (zn P Q)) fun _ _ _ _ h k=>mk_eq (ajd h k)
def bp.neg(x:bp):bp:=Quotient.liftOn (s:=qz) x (fun P=>mk (zF P)) fun _ _ h=>mk_eq (akf h)
instance :Add bp:=⟨bp.add⟩
instance :Mul bp:=⟨bp.mul⟩
instance :Neg bp:=⟨bp.neg⟩
def bp.o:bp:=mk []
def bp.i:bp:=mk [(0,1)]
theorem bp.add_comm(x y:bp):x+y=y+x:=by
 induction x using bp.ind with|_ P=>
 induction y using bp.ind with|_ Q=>
 exact mk_eq fun φ=>by rw[vS,vS,Int.add_comm]
theorem bp.add_assoc(x y z:bp):x+y+z=x+(y+z):=by
 induction x using bp.ind with|_ P=>
 induction y using bp.ind with|_ Q=>
 induction z using bp.ind with|_ R=>
 exact mk_eq fun φ=>by simp only[vS,Int.add_assoc]
theorem bp.add_zero(x:bp):x+bp.o=x:=by
 induction x using bp.ind with|_ P=>
 exact mk_eq fun φ=>by rw[List.append_nil]
theorem bp.mul_comm(x y:bp):x*y=y*x:=by
 induction x using bp.ind with|_ P=>
 induction y using bp.ind with|_ Q=>
 exact mk_eq fun φ=>by rw[tJ,tJ,akd];simp only[Int.add_comm]
theorem bp.mul_assoc(x y z:bp):x*y*z=x*(y*z):=by
 induction x using bp.ind with|_ P=>
 induction y using bp.ind with|_ Q=>
 induction z using bp.ind with|_ R=>
 exact mk_eq fun φ=>by simp only[tJ,ac2,abG,Int.add_assoc]
theorem bp.mul_add(x y z:bp):x*(y+z)=x*y+x*z:=by
 induction x using bp.ind with|_ P=>
 induction y using bp.ind with|_ Q=>
 induction z using bp.ind with|_ R=>
 exact mk_eq fun φ=>by simp only[tJ,vS,acW]
theorem bp.mul_zero(x:bp):x*bp.o=bp.o:=by
 induction x using bp.ind with|_ P=>
 exact mk_eq fun φ=>by rw[tJ];simp only[ev];rw[ach]
theorem bp.zero_mul(x:bp):bp.o*x=bp.o:=by rw[bp.mul_comm,bp.mul_zero]
theorem bp.mul_one(x:bp):x*bp.i=x:=by
 induction x using bp.ind with|_ P=>
 refine mk_eq fun φ=>?_
 rw[tJ]
 have e:∀Q:gU,ev Q (fun x=>ev [(0,1)] (fun y=>φ (wr (x+y))))=ev Q φ:=by
  intro Q
  induction Q with
  |nil=>rfl
  |cons q Q ih=>
   have h0:wr 0=0:=alP (by omega)
   show q.2*(1*φ (wr (wr q.1+wr 0))+0)+_=q.2*φ (wr q.1)+_
   rw[h0,show wr (wr q.1+0)=wr q.1 from by rw[Int.add_zero,ajz],ih,Int.one_mul,Int.add_zero]
 rw[e]
theorem bp.one_mul(x:bp):bp.i*x=x:=by rw[bp.mul_comm,bp.mul_one]
instance :Std.Associative (α:=bp) (·+·):=⟨bp.add_assoc⟩
instance :Std.Commutative (α:=bp) (·+·):=⟨bp.add_comm⟩
instance :Std.Associative (α:=bp) (·*·):=⟨bp.mul_assoc⟩
instance :Std.Commutative (α:=bp) (·*·):=⟨bp.mul_comm⟩
structure Tm where
 e:Int
 c:Int
instance :Inhabited Tm:=⟨⟨0,0⟩⟩
def Can(l:List Tm):Prop:=l.Pairwise (fun s t=>s.e<t.e)/\∀t∈l,t.c≠0/\wr t.c=t.c/\wr t.e=t.e
theorem Can.eX:Can []:=⟨List.Pairwise.nil,by simp⟩
def put:List Tm->Int->Int->List Tm
 |[],e,c=>if c=0 then[]else[⟨e,c⟩]
 |t::l,e,c=>if c=0 then t::l else if t.e<e then t::put l e c else if t.e=e then(if wr (t.c+c)=0 then l else⟨e,wr (t.c+c)⟩::l)else⟨e,c⟩::t::l
end Go.Proofs.YthppkofceancjaaGreat
namespace Go.Proofs.YthppkofceancjaaGreat
section
variable (m : Nat → Nat → bp) (N : Nat)
variable {m N}
end
instance :Inhabited bp:=⟨bp.o⟩
end Go.Proofs.YthppkofceancjaaGreat
namespace Go.Proofs.YthppkofceancjaaGreat
open Go.ChangeShapes Go.WideShapes Go.ChangeAt Go.RowKit Go.Sort
def gF(xs:List Int):List Int:=xs.mergeSort fun x y=>decide (x<=y)
theorem Gk(xs:List Int):(gF xs).Perm xs:=List.mergeSort_perm _ _
theorem abN(xs:List Int):(gF xs).length=xs.length:=(Gk xs).length_eq
theorem rP{xs:List Int}{x:Int}:x∈gF xs<->x∈xs:=(Gk xs).mem_iff
theorem abu(xs:List Int):xs.flatMap Uv.f=xs.map (Value.int .i64):=by
 induction xs with
 |nil=>rfl
 |cons x xs ih=>simp only[List.flatMap_cons,ih,List.map_cons];rfl
theorem SH.sorted{w:World}{M:Hp}{X:Fr}{g cap n:Nat}{xs ys:List Int}{os:Array Obj}(S:SH w M X [Rs.row Uv (.slice (some ⟨g,0,none⟩) xs.length cap) xs])(hl:ys.length=xs.length):
  SH (Go.Sort.grow (putRow (Value.int .i64) (Go.Sort.ahead w n) g 0 ys.toArray) os) M X [Rs.row Uv (.slice (some ⟨g,0,none⟩) xs.length cap) ys]:=by
 have hok:iT Uv (.slice (some ⟨g,0,none⟩) xs.length cap) xs (hp w):=S.get (i:=0) rfl
 rcases hok with⟨h1,_⟩|⟨g',cap',cur,h1,h2,h3,h4,h5,h6⟩
 ·cases h1
 cases h1
 have gb:=grownBy_sortedI (w:=w) (g:=g) (n:=n) (os:=os) ys.toArray
 have h5':cur.size=cap:=h5.trans (Nat.mul_one _)
 refine S.step (i:=0) (H':=[Rs.row Uv (.slice (some ⟨g,0,none⟩) xs.length cap) ys]) rfl rfl ⟨gb.os,gb.tape,gb.output,gb.size⟩ (fun b hb hn=>?_) ?_ (fun b hb=>⟨.inl hb,?_⟩)
 ·exact gb.block b hb (fun e=>hn (by injection e with e;subst e;simp[Rs.row,Value.ownBlock]))
 ·refine .inr ⟨g,cap,_,by rw[hl],heap_sortedI _ h2,by rw[hl];exact h3,h4,by simp[putCells,h5'];exact(Nat.mul_one _).symm,?_⟩
  rw[abu,show ys.length*Uv.k=ys.length from Nat.mul_one _]
  exact take_putCellsI cur ys (by omega)
 ·have hg:g<w.heap.size:=iz h2
  have e:b=g:=by simpa[Rs.row,Value.ownBlock]using hb
  subst e
  exact Nat.lt_of_lt_of_le hg gb.size
theorem SH.alj{w:World}{M:Hp}{X:Fr}{g cap:Nat}{xs:List Int}(S:SH w M X [Rs.row Uv (.slice (some ⟨g,0,none⟩) xs.length cap) xs]):Holds (Value.int .i64) w g 0 xs.toArray/\g<w.heap.size:=by
 have hok:iT Uv (.slice (some ⟨g,0,none⟩) xs.length cap) xs (hp w):=S.get (i:=0) rfl
 rcases hok with⟨h1,_⟩|⟨g',cap',cur,h1,h2,h3,h4,h5,h6⟩
 ·cases h1
 cases h1
 refine⟨holds_of_blockI h2 ?_,iz h2⟩
 rw[abu,show xs.length*Uv.k=xs.length from Nat.mul_one _]at h6
 exact h6
theorem akq{P:Program}{ρ:Go.Shelf.Ren}(L:Lays.n189 P ρ){w:World}{M:Hp}{X:Fr}{v:Value}{xs:List Int}(hsz:xs.length<4611686018427387904)(S:SH w M X [Rs.row Uv v xs]):
  C1 P (ρ.f 189) [v] w M X fun u M' r'=>u=.tuple #[]/\M'=M/\r'=Rs.row Uv v (gF xs):=by
 have hok:iT Uv v xs (hp w):=S.get (i:=0) rfl
 rcases hok with⟨h1,h2⟩|⟨g,cap,cur,h1,_⟩
 ·subst h1;subst h2
  refine(Any.slices_Sort_int_none L none 0 w).mono ?_
  rintro e w' ⟨rfl,rfl⟩
  exact⟨_,rfl,M,_,Hp.le_refl _,S,rfl,rfl,by simp[gF]⟩
 ·subst h1
  obtain⟨hH,hb⟩:=S.alj
  refine(Any.slices_Sort_int L g 0 cap xs w hH hb hsz).mono ?_
  rintro e w' ⟨rfl,n,os,rfl⟩
  exact⟨_,rfl,M,_,Hp.le_refl _,S.sorted (abN xs),rfl,rfl,rfl⟩
end Go.Proofs.YthppkofceancjaaGreat
namespace Go.Proofs.YthppkofceancjaaGreat
open Go.ChangeShapes Go.WideShapes Go.ChangeAt Go.RowKit
open Go.ChangeMaps (setBlock)
theorem na.mono{κ ε:Type}{kc:κ->Value}{vc:ε->Value}{g:Nat}{es:List (κ×ε)}{N N':Hp}(h:na kc vc g es N)(k:N.le N'):na kc vc g es N':=by
 obtain⟨arr,clock,h1,h2,h3⟩:=h
 exact⟨arr,clock,k _ _ h1,h2,h3⟩
def Rs.ry(g clock r:Nat)(seen:Array Nat):Rs:=⟨[r],fun h=>h r=some (.mapIter (some g) clock seen clock),fun h h' hb hk=>by rw[hb r (by simp)];exact hk⟩
section
variable {κ ε : Type}
def qW(kc:κ->Value)(vc:ε->Value)(N:Hp)(g:Nat)(arr:Array MapEntry)(clock:Nat)(es:List (κ×ε)):Prop:=N g=some (.map arr clock)/\arr.toList.map (fun e=>(e.key,e.val))=es.map (fun p=>(kc p.1,vc p.2))/\yx arr clock
def tS(kc:κ->Value)(vc:ε->Value)(arr:Array MapEntry)(seen:Array Nat)(lf:List (κ×ε)):Prop:=(leftOf arr seen).toList.map (fun e=>(e.key,e.val))=lf.map (fun p=>(kc p.1,vc p.2))
def Lst(kc:κ->Value)(vc:ε->Value)(arr:Array MapEntry)(seen:Array Nat)(k:κ)(v:ε):Prop:=∃(e:MapEntry) (s0:Array Nat),seen=s0.push e.born/\e∈arr.toList/\e.key=kc k/\e.val=vc v
variable {kc : κ → Value} {vc : ε → Value} {N : Hp} {arr : Array MapEntry} {clock g : Nat} {es lf : List (κ × ε)} {seen : Array Nat}
theorem qW.mono{N':Hp}(h:qW kc vc N g arr clock es)(k:N.le N'):qW kc vc N' g arr clock es:=⟨k _ _ h.1,h.2⟩
theorem na.apg(h:na kc vc g es N):∃arr clock,qW kc vc N g arr clock es:=by
 obtain⟨arr,clock,h⟩:=h
 exact⟨arr,clock,h⟩
theorem ahB(arr:Array MapEntry):leftOf arr #[]=arr:=by unfold leftOf;simp
theorem qW.lft(h:qW kc vc N g arr clock es):tS kc vc arr #[] es:=by unfold tS;rw[ahB];exact h.2.1
theorem aia(arr:Array MapEntry)(seen:Array Nat)(b:Nat):(leftOf arr (seen.push b)).toList=(leftOf arr seen).toList.filter fun e=>!decide (e.born=b):=by
 unfold leftOf
 rw[Array.toList_filter,Array.toList_filter,List.filter_filter]
 refine List.filter_congr fun x _=>?_
 have e:(seen.push b).contains x.born=(seen.contains x.born||decide (x.born=b)):=by
  rw[Bool.eq_iff_iff]
  simp[Array.mem_push]
 rw[e,Bool.not_or,Bool.and_comm]
theorem filter_one{l:List MapEntry}(hn:(l.map (·.born)).Nodup){e:MapEntry}(he:e∈l):∃a b,l=a++e::b/\(l.filter fun x=>!decide (x.born=e.born))=a++b:=by
 obtain⟨a,b,rfl⟩:=List.append_of_mem he
 refine⟨a,b,rfl,?_⟩
 rw[List.map_append,List.map_cons]at hn
 obtain⟨n1,n2,n3⟩:=List.nodup_append.1 hn
 rw[List.filter_append,List.filter_cons_of_neg (by simp)]
 have h1:(a.filter fun x=>!decide (x.born=e.born))=a:=List.filter_eq_self.2 fun x hx=>by
  have:=n3 x.born (List.mem_map.2 ⟨x,hx,rfl⟩) e.born (by simp)
  simp[this]
 have h2:(b.filter fun x=>!decide (x.born=e.born))=b:=List.filter_eq_self.2 fun x hx=>by
  have:=(List.nodup_cons.1 n2).1
  have hne:x.born≠e.born:=fun e'=>this (by rw[<-e'];exact List.mem_map.2 ⟨x,hx,rfl⟩)
  simp[hne]
 rw[h1,h2]
theorem aaH:∀{a:List MapEntry}{e:MapEntry}{b:List MapEntry}{lf:List (κ×ε)},(a++e::b).map (fun e=>(e.key,e.val))=lf.map (fun p=>(kc p.1,vc p.2))->∃l1 p l2,lf=l1++p::l2/\e.key=kc p.1/\e.val=vc p.2/\(a++b).map (fun e=>(e.key,e.val))=(l1++l2).map (fun p=>(kc p.1,vc p.2))
 |[],e,b,[],h=>by simp at h
 |[],e,b,p::lf,h=>by
  simp only[List.nil_append,List.map_cons,List.cons.injEq,Prod.mk.injEq]at h
  exact⟨[],p,lf,rfl,h.1.1,h.1.2,h.2⟩
 |x::a,e,b,[],h=>by simp at h
 |x::a,e,b,q::lf,h=>by
  simp only[List.cons_append,List.map_cons,List.cons.injEq]at h
  obtain⟨l1,p,l2,rfl,h1,h2,h3⟩:=aaH h.2
  exact⟨q::l1,p,l2,rfl,h1,h2,by simp only[List.cons_append,List.map_cons,h.1,h3]⟩
section
variable {P : Program} {o : Oper} {L : List (Nat × Value)} {w : World} {x : Operand} {T K E : TypeId} {n d r i : Nat} {Kt : List (Nat × Value) → World → Prop} {M : Hp} {X : Fr} {H : List Rs}
theorem aiB(hop:o.op=.range T x)(hd:o.dst=some d)(hn:Nat.blt d n=true)(hx:oev L x=some (.map (some g)))(hu:P.underlying T=some (.map K E))(S:SH w M X H)(hg:qW kc vc N g arr clock es)(hN:N.le (hp w))
  (h:∀r w',SH w' M X (Rs.ry g clock r #[]::H)->Kt ((d,.pointer (some ⟨r,0,none⟩))::L) w'):WO P n o L w Kt:=by
 have hg':w.heap[g]? =some (.map arr clock):=hN _ _ hg.1
 refine Ub (v:=.pointer (some ⟨w.heap.size,0,none⟩)) (w':=w.alloc (.mapIter (some g) clock #[] clock)) hd hn ?_ (h _ _ ?_)
 ·intro n c he
  unfold execOp
  simp only[hop,he.eval hx,run_range_map w T K E g arr clock hu hg',Sem.run_bind,Result.andThen_ok,Sem.run_pure]
 ·exact S.cons (ym w _) (yl w _) (heap_alloc_new w _) (fun b hb=>by simp[Rs.ry]at hb;subst hb;rw[rQ];omega)
theorem ajA(hop:o.op=.next x false)(hd:o.dst=some d)(hn:Nat.blt d n=true)(hx:oev L x=some (.pointer (some ⟨r,0,none⟩)))(S:SH w M X H)(hi:nth H i=some (Rs.ry g clock r seen))(hg:qW kc vc N g arr clock es)(hN:N.le (hp w))(hl:tS kc vc arr seen lf)
  (h0:lf=[]->Kt ((d,.tuple [.bool false].toArray)::L) w)
  (h1:∀k v l1 l2 seen' w',lf=l1++(k,v)::l2->tS kc vc arr seen' (l1++l2)->Lst kc vc arr seen' k v->SH w' M X (H.set i (Rs.ry g clock r seen'))->Kt ((d,.tuple [.bool true,kc k,vc v].toArray)::L) w'):WO P n o L w Kt:=by
 have hg':w.heap[g]? =some (.map arr clock):=hN _ _ hg.1
 have hr:w.heap[r]? =some (.mapIter (some g) clock seen clock):=S.get hi
 rcases run_next_at (P:=P) w o.type r g clock clock seen arr clock hr hg' hg.2.2.2 (Nat.le_refl _)with⟨e0,hrun⟩|⟨e,he,w1,hal,hrun⟩
 ·refine Ub (v:=.tuple #[.bool false]) (w':=w) hd hn ?_ (h0 ?_)
  ·intro n c he
   unfold execOp
   simp only[hop,he.eval hx,hrun,Sem.run_bind,Result.andThen_ok,Sem.run_pure]
  ·have:leftOf arr seen=#[]:=Array.eq_empty_of_size_eq_zero e0
   unfold tS at hl
   rw[this]at hl
   cases lf with
   |nil=>rfl
   |cons p l=>simp at hl
 ·obtain⟨hem,_⟩:=mem_left he
  have hsub:((leftOf arr seen).toList.map (·.born)).Nodup:=by
   unfold leftOf;rw[Array.toList_filter]
   exact List.Nodup.sublist (List.Sublist.map _ List.filter_sublist) hg.2.2.1
  obtain⟨a,b,hab,hf⟩:=filter_one hsub he
  unfold tS at hl
  rw[hab]at hl
  obtain⟨l1,p,l2,hlf,hk,hv,hl'⟩:=aaH hl
  have hrun':(Instr.next (.pointer (some ⟨r,0,none⟩)) false o.type).run P w=.ok (.tuple [.bool true,kc p.1,vc p.2].toArray) (setBlock w1 r (.mapIter (some g) clock (seen.push e.born) clock)):=by rw[hrun,hk,hv]
  have hr1:w1.heap[r]? =some (.mapIter (some g) clock seen clock):=by rcases hal with rfl|rfl<;>exact hr
  have mA:=Go.MapKept.heap_set (o':=.mapIter (some g) clock (seen.push e.born) clock) hr1
  have amI:gX w w1:=by rcases hal with rfl|rfl<;>exact⟨rfl,rfl,rfl,Nat.le_refl _⟩
  have hheap:w1.heap=w.heap:=by rcases hal with rfl|rfl<;>rfl
  have hsz:(setBlock w1 r (.mapIter (some g) clock (seen.push e.born) clock)).heap.size=w1.heap.size:=by simp[setBlock]
  refine Ub (v:=.tuple [.bool true,kc p.1,vc p.2].toArray) (w':=setBlock w1 r (.mapIter (some g) clock (seen.push e.born) clock)) hd hn ?_ (h1 p.1 p.2 l1 l2 (seen.push e.born) _ hlf ?_ ⟨e,seen,rfl,hem,hk,hv⟩ ?_)
  ·intro n c he
   unfold execOp
   simp only[hop,he.eval hx,hrun',Sem.run_bind,Result.andThen_ok,Sem.run_pure]
  ·unfold tS
   rw[aia,hf]
   exact hl'
  ·refine S.step hi rfl (amI.trans ⟨rfl,rfl,rfl,by rw[hsz];exact Nat.le_refl _⟩) (fun b _ hb=>?_) mA.1 (fun b hb=>⟨.inl hb,?_⟩)
   ·have hne:b≠r:=by simpa[Rs.ry]using hb
    show(setBlock w1 r _).heap[b]? =w.heap[b]?
    exact(mA.2 b hne).trans (by rw[hheap])
   ·simp[Rs.ry]at hb
    subst hb
    rw[hsz,hheap]
    exact iz hr
theorem ah1(hop:o.op=.entry x)(hx:oev L x=some (.pointer (some ⟨r,0,none⟩)))(S:SH w M X H)(hi:nth H i=some (Rs.ry g clock r seen))(hg:qW kc vc N g arr clock es)(hN:N.le (hp w)){k:κ}{v:ε}(hl:Lst kc vc arr seen k v):Run P o L w (.tuple [kc k,vc v].toArray) w:=by
 have hg':w.heap[g]? =some (.map arr clock):=hN _ _ hg.1
 obtain⟨e,s0,rfl,he,hk,hv⟩:=hl
 have hr:w.heap[r]? =some (.mapIter (some g) clock (s0.push e.born) clock):=S.get hi
 have hrun:=run_entry_at (P:=P) w r g clock s0 arr clock e hr hg' he hg.2.2.1
 rw[hk,hv]at hrun
 intro n c he
 unfold execOp
 simp only[hop,he.eval hx,hrun,Sem.run_bind,Result.andThen_ok,Sem.run_pure]
theorem SH.akV{H':List Rs}(S:SH w M X H)(hi:nth H i=some (Rs.mp kc vc g es))(hH:H.set i Rs.emp=H'):∃M',M.le M'/\SH w M' X H'/\na kc vc g es M':=by
 obtain⟨h1,h2,h3⟩:=S.Rt hi hH
 have h4:na kc vc g es (hp w):=S.get hi
 obtain⟨arr,clock,e,h5⟩:=h4
 exact⟨_,h1,h2,arr,clock,(h3 g (by simp[Rs.mp])).trans e,h5⟩
end
end
section
variable {P : Program} {o : Oper} {L : List (Nat × Value)} {w : World} {x y : Operand} {t t' : TypeId} {a b : Int}
end
end Go.Proofs.YthppkofceancjaaGreat
namespace Go.Proofs.YthppkofceancjaaGreat
open Go.ChangeShapes Go.WideShapes Go.ChangeAt Go.RowKit
def AB(es:List (Int×Int))(B:Nat):Prop:=(es.map Prod.fst).Nodup/\∀q∈es,(-(B:Int)<=q.1/\q.1<=B)/\wr q.2=q.2
theorem AB.eX(B:Nat):AB [] B:=⟨by simp,by simp⟩
def Wk(N:Hp)(g:Nat)(B:Nat)(p:bp):Prop:=∃es,na (Value.int .i64) (Value.int .i64) g es N/\AB es B/\mk es=p
def Wks(bf:Nat->Nat)(N:Hp)(gs:List (Option Nat))(ps:List (Option bp)):Prop:=gs.length=ps.length/\∀i,i<gs.length->match ga ps i with
 |some p=>∃g,ga gs i=some g/\Wk N g (bf i) p
 |none=>ga gs i=none
section
variable {bf : Nat → Nat} {N N' : Hp} {gs : List (Option Nat)} {ps : List (Option bp)}
theorem Wks.eX(bf:Nat->Nat)(N:Hp):Wks bf N [] []:=⟨rfl,fun i hi=>by simp at hi⟩
end
def agv(bf:Nat->Nat)(N:Hp)(Bn:List (List (Option Nat)))(bQ:List (List (Option bp))):Prop:=Bn.length=bQ.length/\∀i,i<Bn.length->Wks bf N (ga Bn i) (ga bQ i)
section
variable {bf : Nat → Nat} {N N' : Hp} {Bn : List (List (Option Nat))} {bQ : List (List (Option bp))}
theorem agv.eX(bf:Nat->Nat)(N:Hp):agv bf N [] []:=⟨rfl,fun i hi=>by simp at hi⟩
end
end Go.Proofs.YthppkofceancjaaGreat
namespace Go.Proofs.YthppkofceancjaaGreat
open Go.ChangeShapes Go.WideShapes Go.ChangeAt Go.RowKit
structure Da where
 a:Int
 b:Bool
instance :Inhabited Da:=⟨⟨0,false⟩⟩
instance :DecidableEq Da:=fun x y=>decidable_of_iff (x.a=y.a/\x.b=y.b) ⟨fun h=>by cases x;cases y;simp at h;simp[h],fun h=>by rw[h];exact⟨rfl,rfl⟩⟩
def yc(x:Da):List Value:=[.int .i64 x.a,.bool x.b]
def cu:Cd Da:=⟨yc,2,16,26,⟨0,false⟩,fun _=>rfl,by
 intro x u hu
 simp[yc]at hu
 rcases hu with rfl|rfl<;>rfl⟩
def okD(d:Dg)(x:Da):Prop:=1<=x.a/\x.a<=2*(d.ae.length:Int)
def jR(d:Dg)(x:Da):Da:=⟨Uq d (Ud d x.a x.b).1 (((Ud d x.a x.b).2+3)%4),Uz d (Ud d x.a x.b).1 (((Ud d x.a x.b).2+3)%4)⟩
theorem eO{d:Dg}(h:aN d=true){i k:Nat}(hi:i<d.ae.length)(hk:k<4):1<=Uq d i k/\Uq d i k<=2*(d.ae.length:Int):=by
 have:=yQ h (j:=4*i+k) (by omega)
 unfold cv at this
 rwa [show(4*i+k)/4=i by omega,show(4*i+k)%4=k by omega]at this
theorem eF{d:Dg}(h:aN d=true){a:Int}(ha:1<=a/\a<=2*(d.ae.length:Int))(b:Bool):(Ud d a b).1<d.ae.length/\(Ud d a b).2<4/\ga (ax d b (4*d.ae.length)) a.toNat=Ud d a b/\a.toNat<2*d.ae.length+1/\a=(a.toNat:Int):=by
 have e:a=(a.toNat:Int):=by omega
 obtain⟨h1,h2,h3,_⟩:=abx h (a:=a.toNat) (by omega) (by omega) b
 rw[<-e]at h1 h2 h3
 refine⟨h1,h2,?_,by omega,e⟩
 rw[rH (by omega),<-e]
 exact h3
theorem abt{d:Dg}(h:aN d=true){x:Da}(hx:okD d x):okD d (jR d x):=by
 obtain⟨h1,h2,_⟩:=eF h hx x.b
 exact eO h h1 (Nat.mod_lt _ (by decide))
theorem cD:ky Tryz.prog 22 aF:=⟨.agg [.int .i64 0,.int .i64 0,.int .i64 0,.int .i64 0,.bool false].toArray,bt,by kernel_rfl,rfl,by decide,by decide⟩
theorem oK:ky Tryz.prog 68 br:=⟨.agg [.int .i64 0,.int .i64 0].toArray,mX,by kernel_rfl,rfl,by decide,by decide⟩
theorem iF:ky Tryz.prog 141 cu:=⟨.agg [.int .i64 0,.bool false].toArray,iO,by kernel_rfl,rfl,by decide,by decide⟩
noncomputable def Z0:=Tryz.f115.body.getD .skip
def Z1:=cL Z0
def Z2:=cR Z0
def Z3:=cL Z2
def Z4:=cR Z2
set_option maxRecDepth 10000 in
theorem Dn{w:World}{M:Hp}{X:Fr}(x:Cr)(k:Nat)(hk:k<4)(S:SH w M X []):Cq Tryz.prog 115 [.agg [.int .i64 x.a,.int .i64 x.b,.int .i64 x.c,.int .i64 x.d,.bool x.plus].toArray,.int .i64 (k:Int)] w M X (fun u=>u=.int .i64 (cK x k)):=by
 unfold Cq
 refine Up (b:=Z0) Tryz.func115 rfl Tryz.ntmps115 rfl (fun C hC=>(bq [(0,_),(1,_)] ⟨rfl,rfl,trivial⟩ (U2 Z1 Z2 rfl rfl rfl (U0 rfl (ak 0 1 rfl rfl rfl (bE (l:=[_,_,_,_,_]) rfl rfl rfl rfl rfl S ?_))))))
 intro aI w1 S1;clear S
 refine ag 1 1 rfl rfl (U5 rfl (ah [1,2] rfl (U3 (U2 Z3 Z4 rfl rfl rfl (U0 rfl (af 0 rfl (U1 rfl rfl aW rfl (aC) (aB)) (af 1 rfl (U4 rfl rfl av rfl (S1.ar (i:=0) rfl rfl)) (af 2 rfl (U1 rfl rfl aW rfl (aC) (aB)) ?_))))))))
 refine af 3 rfl (U4 rfl rfl av rfl (S1.ar (i:=0) rfl rfl)) (af 4 rfl (U1 rfl rfl aW rfl (aC) (aB)) (af 5 rfl (U4 rfl rfl av rfl (S1.ar (i:=0) rfl rfl)) (af 6 rfl (U1 rfl rfl aW rfl (aC) (aB)) (af 7 rfl (U4 rfl rfl av rfl (S1.ar (i:=0) rfl rfl)) (af 8 rfl (jN (l:=[_,_,_,_]) (pl:=[(0,1),(1,1),(2,1),(3,1)]) rfl rfl uo HR bg rfl rfl rfl) (ag 9 1 rfl rfl (af 10 rfl (yn (e:=k) rfl rfl rfl uo av rfl bg (by first|rfl|omega) (by first|omega|(simp only[ls];omega)) (ak0 [x.a,x.b,x.c,x.d] k (by simp;first|omega|(simp only[ls];omega)))) ?_)))))))
 refine ag 11 1 rfl rfl (U5 rfl (ah [4] rfl (U3 (Uk hC [_] rfl rfl ⟨rfl,trivial⟩ ?_))))
 exact⟨_,rfl,(S1.pick [] [] (by decide) trivial),(by have e0:k=0\/k=1\/k=2\/k=3:=(by omega);rcases e0 with rfl|rfl|rfl|rfl<;>first|rfl|(exfalso;omega))⟩
noncomputable def Z5:=Tryz.f170.body.getD .skip
def Z6:=cL Z5
def Z7:=cR Z5
def Z8:=cL Z7
def Z9:=cR Z7
def Za:=cL Z8
def Zb:=cR Z8
def Zc:=cL Zb
def Zd:=cR Zb
def Ze:=cL Zc
def Zf:=cR Zc
def Zg:=cL Z9
def Zh:=cR Z9
set_option maxRecDepth 10000 in
theorem ajt{w:World}{M:Hp}{X:Fr}(x:Cr)(S:SH w M X []):Cq Tryz.prog 170 [.agg [.int .i64 x.a,.int .i64 x.b,.int .i64 x.c,.int .i64 x.d,.bool x.plus].toArray] w M X (fun u=>u=.int .i64 (rW x:Int)):=by
 unfold Cq
 refine Up (b:=Z5) Tryz.func170 rfl Tryz.ntmps170 rfl (fun C hC=>(bq [(0,_)] ⟨rfl,trivial⟩ (U2 Z6 Z7 rfl rfl rfl (U0 rfl (ak 0 1 rfl rfl rfl (bE (l:=[_,_,_,_,_]) rfl rfl rfl rfl rfl S ?_))))))
 intro aI w1 S1;clear S
 refine ag 1 1 rfl rfl (U5 rfl (ah [1] rfl (U3 (U2 Z8 Z9 rfl rfl rfl (U2 Za Zb rfl rfl rfl (U0 rfl (af 0 rfl (U1 rfl rfl aW rfl (gI) (gH)) (af 1 rfl (U4 rfl rfl dL rfl (S1.ar (i:=0) rfl rfl)) ?_))))))))
 refine U5 rfl (ah [4] rfl (U3 ?_))
 refine dN Zc Zd rfl rfl rfl rfl (fun hb4=>?_) (fun hb4=>?_)
 ·refine U2 Ze Zf rfl rfl rfl (U0 rfl (ag 0 1 rfl rfl (U5 rfl (ah [2] rfl (U3 (Uk hC [_] rfl rfl ⟨rfl,trivial⟩ ?_))))))
  exact⟨_,rfl,(S1.pick [] [] (by decide) trivial),(by show Value.int _ _=_;unfold rW;rw[hb4];rfl)⟩
 ·refine Ue rfl (bN [] trivial (U3 (U2 Zg Zh rfl rfl rfl (U0 rfl (ag 0 1 rfl rfl (U5 rfl (U3 (Uk hC [_] rfl rfl ⟨rfl,trivial⟩ ?_))))))))
  exact⟨_,rfl,(S1.pick [] [] (by decide) trivial),(by show Value.int _ _=_;unfold rW;rw[hb4];rfl)⟩
noncomputable def Zi:=Tryz.f133.body.getD .skip
def Zj:=cL Zi
def Zk:=cR Zi
def Zl:=cL Zk
def Zm:=cR Zk
set_option maxRecDepth 10000 in
theorem acv{w:World}{M:Hp}{X:Fr}(x:Cr)(k:Nat)(hk:k<4)(S:SH w M X []):Cq Tryz.prog 133 [.agg [.int .i64 x.a,.int .i64 x.b,.int .i64 x.c,.int .i64 x.d,.bool x.plus].toArray,.int .i64 (k:Int)] w M X (fun u=>u=.bool (jc x k)):=by
 unfold Cq
 refine Up (b:=Zi) Tryz.func133 rfl Tryz.ntmps133 rfl (fun C hC=>(bq [(0,_),(1,_)] ⟨rfl,rfl,trivial⟩ (U2 Zj Zk rfl rfl rfl (U0 rfl (ak 0 1 rfl rfl rfl (bE (l:=[_,_,_,_,_]) rfl rfl rfl rfl rfl S ?_))))))
 intro aI w1 S1;clear S
 refine ag 1 1 rfl rfl (U5 rfl (ah [1,2] rfl (U3 (U2 Zl Zm rfl rfl rfl (U0 rfl (ag 0 1 rfl rfl (af 1 rfl (bR rfl rfl rfl) (ag 2 1 rfl rfl ?_))))))))
 refine Uw (t:=7) rfl (fun Bd=>?_) (fun Bd=>?_)
 ·refine ag 3 6 rfl rfl (U5 rfl (ah [4] rfl (U3 (Uk hC [_] rfl rfl ⟨rfl,trivial⟩ ?_))))
  exact⟨_,rfl,(S1.pick [] [] (by decide) trivial),(by show Value.bool _=_;refine congrArg Value.bool ?_;unfold jc;first|(symm;rw[decide_eq_true_iff];left;omega)|(unfold rW;refine decide_eq_decide.2 ?_;cases hp9:x.plus<;>simp<;>omega))⟩
 ·refine ag 3 1 rfl rfl (aH 4 5 rfl rfl rfl rfl rfl rfl rfl rfl (Ub rfl rfl (U8 (us:=[_,_,_,_,_]) rfl rfl aW rfl cg (S1.aw (i:=0) rfl ⟨rfl,rfl,rfl,rfl,rfl,trivial⟩)) (aH 5 6 rfl rfl rfl rfl rfl rfl rfl rfl (cS rfl rfl rfl rfl rfl rfl rfl ang S1 (ajt x S1.aD) ?_))))
  rintro _ w2 S2 rfl;clear S1
  refine aH 6 7 rfl rfl rfl rfl rfl rfl rfl rfl (Ub rfl rfl (bR rfl rfl rfl) (ag 7 2 rfl rfl (U5 rfl (ah [4] rfl (U3 (Uk hC [_] rfl rfl ⟨rfl,trivial⟩ ?_))))))
  exact⟨_,rfl,(S2.pick [] [] (by decide) trivial),(by show Value.bool _=_;refine congrArg Value.bool ?_;unfold jc;first|(symm;rw[decide_eq_true_iff];left;omega)|(unfold rW;refine decide_eq_decide.2 ?_;cases hp9:x.plus<;>simp<;>omega))⟩
noncomputable def Zn:=Tryz.f129.body.getD .skip
def Zo:=cL Zn
def Zp:=cR Zn
def Zq:=cL Zp
def Zr:=cR Zp
set_option maxRecDepth 10000 in
theorem EX{w:World}{M:Hp}{X:Fr}(d:Dg){bL:Nat}{cA iA oA:Option Addr}{cc ic oc:Nat}(c k:Nat)(bu:dG (M.un X.h) bL 70 [.slice cA d.ae.length cc,.int .i64 d.loops,.slice iA (ax d false (4*d.ae.length)).length ic,.slice oA (ax d true (4*d.ae.length)).length oc])(hsc:aG aF (M.un X.h) cA cc d.ae)(hsi:aG br (M.un X.h) iA ic (ax d false (4*d.ae.length)))(aK:aG br (M.un X.h) oA oc (ax d true (4*d.ae.length)))(hc:c<d.ae.length)(hk:k<4)(S:SH w M X []):Cq Tryz.prog 129 [.pointer (some ⟨bL,0,none⟩),.agg [.int .i64 (c:Int),.int .i64 (k:Int)].toArray] w M X (fun u=>u=.int .i64 (Uq d c k)):=by
 unfold Cq
 refine Up (b:=Zn) Tryz.func129 rfl Tryz.ntmps129 rfl (fun C hC=>(bq [(0,_),(1,_)] ⟨rfl,rfl,trivial⟩ (U2 Zo Zp rfl rfl rfl (U0 rfl (ak 0 1 rfl rfl rfl (bE (l:=[_,_]) rfl rfl rfl rfl rfl S ?_))))))
 intro aI w1 S1;clear S
 refine ag 1 1 rfl rfl (U5 rfl (ah [0,3] rfl (U3 (U2 Zq Zr rfl rfl rfl (bM rfl (by kernel_rfl) S1 13 rfl ?_)))))
 clear S1
 refine ai 0 12 rfl (by kernel_rfl) (fun _=>run_move rfl rfl) ?_
 refine ai 1 11 rfl (by kernel_rfl) (fun _=>U9 rfl rfl) ?_
 refine ai 2 10 rfl (by kernel_rfl) (fun _=>U1 rfl rfl dR rfl (fE) (fD)) ?_
 refine ai 3 9 rfl (by kernel_rfl) (fun _=>U1 rfl rfl ay rfl (bK) (bJ)) ?_
 refine aj 4 8 rfl (by kernel_rfl) (fun _ _ _ hz Sz=>.inl (U4 rfl rfl bt rfl ((bu.mono (Hp.Ua hz Sz.mx)).cell Sz.um rfl))) ?_
 refine ai 5 7 rfl (by kernel_rfl) (fun _=>U1 rfl rfl cO rfl (aC) (aB)) ?_
 refine aj 6 6 rfl (by kernel_rfl) (fun _ _ _ hz Sz=>.inl (U4 rfl rfl av rfl (Sz.suf.ar (i:=0) rfl rfl))) ?_
 refine aj 7 5 rfl (by kernel_rfl) (fun _ _ _ hz Sz=>.inl (Ul (C:=aF) c rfl rfl rfl cD (by first|rfl|omega) (hsc.mono (Hp.Ua hz Sz.mx)) (by first|omega|(simp only[ls];omega)))) ?_
 refine aj 8 4 rfl (by kernel_rfl) (fun _ _ _ hz Sz=>.inl (U8 (us:=[_,_,_,_,_]) rfl rfl aW rfl cg ((hsc.mono (Hp.Ua hz Sz.mx)).fU Sz.um (e:=c) (by first|omega|(simp only[ls];omega)) (j:=0) ⟨rfl,rfl,rfl,rfl,rfl,trivial⟩))) ?_
 refine ai 9 3 rfl (by kernel_rfl) (fun _=>U1 rfl rfl cO rfl (aC) (aB)) ?_
 refine aj 10 2 rfl (by kernel_rfl) (fun _ _ _ hz Sz=>.inl (U4 rfl rfl av rfl (Sz.suf.ar (i:=0) rfl rfl))) ?_
 refine aj 11 1 rfl (by kernel_rfl) (fun _ _ _ hz Sz=>Ur rfl rfl rfl rfl rfl Df Sz (Dn (ga d.ae c) k (by omega) Sz.aD)) ?_
 refine ai 12 0 rfl (by kernel_rfl) (fun _=>run_assign rfl rfl) ?_
 refine Uu (by kernel_rfl) (fun nW bO=>?_)
 refine ah [4] rfl (U3 (Uk hC [_] rfl rfl ⟨rfl,trivial⟩ ?_))
 exact⟨_,rfl,(bO.pick [] [] (by decide) trivial),rfl⟩
noncomputable def Zs:=Tryz.f111.body.getD .skip
def Zt:=cL Zs
def Zu:=cR Zs
def Zv:=cL Zu
def Zw:=cR Zu
set_option maxRecDepth 10000 in
theorem r8{w:World}{M:Hp}{X:Fr}(d:Dg){bL:Nat}{cA iA oA:Option Addr}{cc ic oc:Nat}(bu:dG (M.un X.h) bL 70 [.slice cA d.ae.length cc,.int .i64 d.loops,.slice iA (ax d false (4*d.ae.length)).length ic,.slice oA (ax d true (4*d.ae.length)).length oc])(hsc:aG aF (M.un X.h) cA cc d.ae)(hsi:aG br (M.un X.h) iA ic (ax d false (4*d.ae.length)))(aK:aG br (M.un X.h) oA oc (ax d true (4*d.ae.length)))(hn:d.ae.length<=16)(S:SH w M X []):Cq Tryz.prog 111 [.pointer (some ⟨bL,0,none⟩)] w M X (fun u=>u=.int .i64 (2*(d.ae.length:Int))):=by
 unfold Cq
 refine Up (b:=Zs) Tryz.func111 rfl Tryz.ntmps111 rfl (fun C hC=>(bq [(0,_)] ⟨rfl,trivial⟩ (U2 Zt Zu rfl rfl rfl (U0 rfl (ag 0 1 rfl rfl (U5 rfl (ah [0] rfl (U3 (U2 Zv Zw rfl rfl rfl ?_)))))))))
 refine U0 rfl (ag 0 1 rfl rfl (af 1 rfl (U9 rfl rfl) (af 2 rfl (U1 rfl rfl dR rfl (fE) (fD)) (af 3 rfl (U1 rfl rfl ay rfl (bK) (bJ)) (af 4 rfl (U4 rfl rfl bt rfl (bu.cell S.um rfl)) (af 5 rfl (cU rfl rfl rfl rfl rfl rfl bt) (af 6 rfl (jh rfl rfl rfl (by first|omega|(simp only[ls];omega))) ?_)))))))
 refine ag 7 1 rfl rfl (U5 rfl (ah [2] rfl (U3 (Uk hC [_] rfl rfl ⟨rfl,trivial⟩ ?_))))
 exact⟨_,rfl,(S.pick [] [] (by decide) trivial),rfl⟩
end Go.Proofs.YthppkofceancjaaGreat
namespace Go.Proofs.YthppkofceancjaaGreat
open Go.ChangeShapes Go.WideShapes Go.ChangeAt Go.RowKit
noncomputable def Zx:=Tryz.f106.body.getD .skip
def Zy:=cL Zx
def Zz:=cR Zx
def Z10:=cL Zz
def Z11:=cR Zz
def Z12:=cL Z10
def Z13:=cR Z10
def Z14:=cL Z13
def Z15:=cR Z13
def Z16:=cL Z14
def Z17:=cR Z14
def Z18:=cL Z11
def Z19:=cR Z11
set_option maxRecDepth 10000 in
theorem HP{w:World}{M:Hp}{X:Fr}(d:Dg){bL:Nat}{cA iA oA:Option Addr}{cc ic oc:Nat}(x:Da)(bu:dG (M.un X.h) bL 70 [.slice cA d.ae.length cc,.int .i64 d.loops,.slice iA (ax d false (4*d.ae.length)).length ic,.slice oA (ax d true (4*d.ae.length)).length oc])(hsc:aG aF (M.un X.h) cA cc d.ae)(hsi:aG br (M.un X.h) iA ic (ax d false (4*d.ae.length)))(aK:aG br (M.un X.h) oA oc (ax d true (4*d.ae.length)))(hn:d.ae.length<=16)(hab:aN d=true)(hx:okD d x)(S:SH w M X []):Cq Tryz.prog 106 [.pointer (some ⟨bL,0,none⟩),.agg [.int .i64 x.a,.bool x.b].toArray] w M X (fun u=>u=.agg (o9 (Ud d x.a x.b)).toArray):=by
 unfold Cq
 obtain⟨ny,pX,pg,RR,RQ⟩:=eF hab hx x.b
 have htl:∀b,(ax d b (4*d.ae.length)).length=2*d.ae.length+1:=fun b=>gJ d b _
 have htf:=htl false
 have htt:=htl true
 have hx1:=hx.1
 have hx2:=hx.2
 refine Up (b:=Zx) Tryz.func106 rfl Tryz.ntmps106 rfl (fun C hC=>(bq [(0,_),(1,_)] ⟨rfl,rfl,trivial⟩ (U2 Zy Zz rfl rfl rfl (U0 rfl (ak 0 1 rfl rfl rfl (bE (l:=[_,_]) rfl rfl rfl rfl rfl S ?_))))))
 intro aI w1 S1;clear S
 refine ak 1 2 rfl rfl rfl (Uh (l:=[_,_]) rfl rfl rfl oC rfl S1 ?_)
 intro aQ w2 S2;clear S1
 refine U5 rfl (ah [0,3,4] rfl (U3 (U2 Z10 Z11 rfl rfl rfl (U2 Z12 Z13 rfl rfl rfl (U0 rfl (af 0 rfl (U1 rfl rfl aZ rfl (gI) (gH)) (af 1 rfl (U4 rfl rfl dL rfl (S2.ar (i:=1) rfl rfl)) (U5 rfl ?_))))))))
 refine ah [0,3,4,6] rfl (U3 ?_)
 refine dN Z14 Z15 rfl rfl rfl rfl (fun vM=>?_) (fun vM=>?_)
 ·refine U2 Z16 Z17 rfl rfl rfl (bM rfl (by kernel_rfl) S2 9 rfl ?_)
  clear S2
  refine ai 0 8 rfl (by kernel_rfl) (fun _=>run_move rfl rfl) ?_
  refine ai 1 7 rfl (by kernel_rfl) (fun _=>U9 rfl rfl) ?_
  refine ai 2 6 rfl (by kernel_rfl) (fun _=>U1 rfl rfl dR rfl (oW) (oL)) ?_
  refine aj 3 5 rfl (by kernel_rfl) (fun _ _ _ hz Sz=>.inl (U4 rfl rfl mX rfl ((bu.mono (Hp.Ua hz Sz.mx)).cell Sz.um rfl))) ?_
  refine ai 4 4 rfl (by kernel_rfl) (fun _=>U1 rfl rfl aZ rfl (aC) (aB)) ?_
  refine aj 5 3 rfl (by kernel_rfl) (fun _ _ _ hz Sz=>.inl (U4 rfl rfl av rfl (Sz.suf.ar (i:=1) rfl rfl))) ?_
  refine aj 6 2 rfl (by kernel_rfl) (fun _ _ _ hz Sz=>.inl (Ul (C:=br) x.a.toNat rfl rfl rfl oK (by first|rfl|omega) (aK.mono (Hp.Ua hz Sz.mx)) (by first|omega|(simp only[ls];omega)))) ?_
  refine aj 7 1 rfl (by kernel_rfl) (fun _ _ _ hz Sz=>.inl (U8 (us:=[_,_]) rfl rfl cO rfl eA ((aK.mono (Hp.Ua hz Sz.mx)).fU Sz.um (e:=x.a.toNat) (by first|omega|(simp only[ls];omega)) (j:=0) ⟨rfl,rfl,trivial⟩))) ?_
  refine Un (i:=8) 0 rfl (by kernel_rfl) rfl rfl (fun lU bV=>?_)
  refine(U6 (i:=0) (us:=[_,_]) (l':=[_,_]) (H':=[_,_]) rfl rfl bV rfl rfl rfl rfl eA rfl rfl rfl rfl ?_)
  intro kz bZ;clear bV
  refine aP.turn (by kernel_rfl) bZ ?_;clear bZ
  change WA _ _ _ _ _ _ _ _ _ _ _ _ [_,_]
  refine Uu (by kernel_rfl) (fun jG bI=>?_)
  refine ah [4] rfl (U3 (Uk hC [_] rfl rfl ⟨⟨_,rfl,Um (us:=[_,_]) cO rfl eA (bI.aw (i:=0) rfl ⟨rfl,rfl,trivial⟩)⟩,trivial⟩ ?_))
  exact⟨_,rfl,(bI.pick [] [] (by decide) trivial),(by rw[vM]at pg;show Value.agg (o9 (ga (ax d _ (4*d.ae.length)) x.a.toNat)).toArray=_;rw[pg,vM])⟩
 ·refine Ue rfl (ah [0,3,4] rfl (U3 (U2 Z18 Z19 rfl rfl rfl (bM rfl (by kernel_rfl) S2 9 rfl ?_))))
  clear S2
  refine ai 0 8 rfl (by kernel_rfl) (fun _=>run_move rfl rfl) ?_
  refine ai 1 7 rfl (by kernel_rfl) (fun _=>U9 rfl rfl) ?_
  refine ai 2 6 rfl (by kernel_rfl) (fun _=>U1 rfl rfl dR rfl (oW) (oL)) ?_
  refine aj 3 5 rfl (by kernel_rfl) (fun _ _ _ hz Sz=>.inl (U4 rfl rfl mX rfl ((bu.mono (Hp.Ua hz Sz.mx)).cell Sz.um rfl))) ?_
  refine ai 4 4 rfl (by kernel_rfl) (fun _=>U1 rfl rfl aZ rfl (aC) (aB)) ?_
  refine aj 5 3 rfl (by kernel_rfl) (fun _ _ _ hz Sz=>.inl (U4 rfl rfl av rfl (Sz.suf.ar (i:=1) rfl rfl))) ?_
  refine aj 6 2 rfl (by kernel_rfl) (fun _ _ _ hz Sz=>.inl (Ul (C:=br) x.a.toNat rfl rfl rfl oK (by first|rfl|omega) (hsi.mono (Hp.Ua hz Sz.mx)) (by first|omega|(simp only[ls];omega)))) ?_
  refine aj 7 1 rfl (by kernel_rfl) (fun _ _ _ hz Sz=>.inl (U8 (us:=[_,_]) rfl rfl cO rfl eA ((hsi.mono (Hp.Ua hz Sz.mx)).fU Sz.um (e:=x.a.toNat) (by first|omega|(simp only[ls];omega)) (j:=0) ⟨rfl,rfl,trivial⟩))) ?_
  refine Un (i:=8) 0 rfl (by kernel_rfl) rfl rfl (fun AH cI=>?_)
  refine(U6 (i:=0) (us:=[_,_]) (l':=[_,_]) (H':=[_,_]) rfl rfl cI rfl rfl rfl rfl eA rfl rfl rfl rfl ?_)
  intro vz cH;clear cI
  refine aP.turn (by kernel_rfl) cH ?_;clear cH
  change WA _ _ _ _ _ _ _ _ _ _ _ _ [_,_]
  refine Uu (by kernel_rfl) (fun vw fY=>?_)
  refine ah [4] rfl (U3 (Uk hC [_] rfl rfl ⟨⟨_,rfl,Um (us:=[_,_]) cO rfl eA (fY.aw (i:=0) rfl ⟨rfl,rfl,trivial⟩)⟩,trivial⟩ ?_))
  exact⟨_,rfl,(fY.pick [] [] (by decide) trivial),(by rw[vM]at pg;show Value.agg (o9 (ga (ax d _ (4*d.ae.length)) x.a.toNat)).toArray=_;rw[pg,vM])⟩
noncomputable def Z1a:=Tryz.f108.body.getD .skip
def Z1b:=cL Z1a
def Z1c:=cR Z1a
def Z1d:=cL Z1c
def Z1e:=cR Z1c
def Z1f:=cL Z1e
def Z1g:=cR Z1e
def Z1h:=cL Z1g
def Z1i:=cR Z1g
set_option maxRecDepth 10000 in
theorem alK{w:World}{M:Hp}{X:Fr}(d:Dg){bL:Nat}{cA iA oA:Option Addr}{cc ic oc:Nat}(x:Da)(bu:dG (M.un X.h) bL 70 [.slice cA d.ae.length cc,.int .i64 d.loops,.slice iA (ax d false (4*d.ae.length)).length ic,.slice oA (ax d true (4*d.ae.length)).length oc])(hsc:aG aF (M.un X.h) cA cc d.ae)(hsi:aG br (M.un X.h) iA ic (ax d false (4*d.ae.length)))(aK:aG br (M.un X.h) oA oc (ax d true (4*d.ae.length)))(hn:d.ae.length<=16)(hab:aN d=true)(hx:okD d x)(S:SH w M X []):Cq Tryz.prog 108 [.pointer (some ⟨bL,0,none⟩),.agg [.int .i64 x.a,.bool x.b].toArray] w M X (fun u=>u=.agg (yc (jR d x)).toArray):=by
 unfold Cq
 obtain⟨ny,pX,pg,RR,RQ⟩:=eF hab hx x.b
 have htl:∀b,(ax d b (4*d.ae.length)).length=2*d.ae.length+1:=fun b=>gJ d b _
 have htf:=htl false
 have htt:=htl true
 have hx1:=hx.1
 have hx2:=hx.2
 refine Up (b:=Z1a) Tryz.func108 rfl Tryz.ntmps108 rfl (fun C hC=>(bq [(0,_),(1,_)] ⟨rfl,rfl,trivial⟩ (U2 Z1b Z1c rfl rfl rfl (U0 rfl (ak 0 1 rfl rfl rfl (bE (l:=[_,_]) rfl rfl rfl rfl rfl S ?_))))))
 intro aI w1 S1;clear S
 refine ak 1 2 rfl rfl rfl (Uh (l:=[_,_]) rfl rfl rfl nN rfl S1 ?_)
 intro aQ w2 S2;clear S1
 refine U5 rfl (ah [0,3,4] rfl (U3 (U2 Z1d Z1e rfl rfl rfl (U0 rfl (ag 0 1 rfl rfl (af 1 rfl (U8 (us:=[_,_]) rfl rfl aZ rfl cC (S2.aw (i:=1) rfl ⟨rfl,rfl,trivial⟩)) (ak 2 3 rfl rfl rfl (cS rfl rfl rfl rfl rfl rfl rfl II S2 (HP d x (bu.mono S2.Uy) (hsc.mono S2.Uy) (hsi.mono S2.Uy) (aK.mono S2.Uy) (by first|assumption|omega) hab (by first|assumption|omega) S2.aD) ?_))))))))
 rintro _ w3 S3 rfl;clear S2
 refine ak 3 4 rfl rfl rfl (Uh (l:=[_,_]) rfl rfl rfl oC rfl S3 ?_)
 intro bz w4 S4;clear S3
 refine ak 4 5 rfl rfl rfl (U6 (i:=0) (us:=[_,_]) (l':=[_,_]) (H':=[_,_,_]) rfl rfl S4 rfl rfl rfl rfl eA rfl rfl rfl rfl ?_)
 intro w5 S5;clear S4
 refine U5 rfl (ah [0,4,5] rfl (U3 (U2 Z1f Z1g rfl rfl rfl (U0 rfl (af 0 rfl (U1 rfl rfl cO rfl (aC) (aB)) (af 1 rfl (U4 rfl rfl av rfl (S5.ar (i:=0) rfl rfl)) (af 2 rfl (U1 rfl rfl cO rfl (aC) (aB)) (af 3 rfl (U4 rfl rfl av rfl (S5.ar (i:=0) rfl rfl)) ?_))))))))
 refine af 4 rfl (Ug rfl rfl rfl (by first|omega|(simp only[ls];omega))) ?_
 refine af 5 rfl (rR rfl rfl rfl (by first|omega|(simp only[ls];omega))) ?_
 refine af 6 rfl (jY rfl rfl rfl (by first|omega|(simp only[ls];omega))) ?_
 refine cy 16 (.int .i64 ((((Ud d x.a x.b).2+3)%4:Nat):Int)) rfl (int_eq (by omega)) ?_
 have aef:((Ud d x.a x.b).2+3)%4<4:=Nat.mod_lt _ (by decide)
 refine af 7 rfl (run_build (l:=[_,_]) rfl rfl H6 rfl rfl) (ak 8 9 rfl rfl rfl (Uh (l:=[_,_]) rfl rfl rfl oC rfl S5 ?_))
 intro gZ w6 S6;clear S5
 refine ak 9 10 rfl rfl rfl (U6 (i:=0) (us:=[_,_]) (l':=[_,_]) (H':=[_,_,_,_]) rfl rfl S6 rfl rfl rfl rfl eA rfl rfl rfl rfl ?_)
 intro w7 S7;clear S6
 refine U5 rfl (ah [0,4,6] rfl (U3 (U2 Z1h Z1i rfl rfl rfl (bM rfl (by kernel_rfl) S7 17 rfl ?_))))
 clear S7
 refine ai 0 16 rfl (by kernel_rfl) (fun _=>run_move rfl rfl) ?_
 refine aj 1 15 rfl (by kernel_rfl) (fun _ _ _ hz Sz=>.inl (U8 (us:=[_,_]) rfl rfl cO rfl eA (Sz.suf.aw (i:=0) rfl ⟨rfl,rfl,trivial⟩))) ?_
 refine aj 2 14 rfl (by kernel_rfl) (fun _ _ _ hz Sz=>Ur rfl rfl rfl rfl rfl Dc Sz (EX d ((Ud d x.a x.b).1) (((Ud d x.a x.b).2+3)%4) ((bu.mono (Hp.Ua hz Sz.mx)).mono Sz.Uy) ((hsc.mono (Hp.Ua hz Sz.mx)).mono Sz.Uy) ((hsi.mono (Hp.Ua hz Sz.mx)).mono Sz.Uy) ((aK.mono (Hp.Ua hz Sz.mx)).mono Sz.Uy) (by omega) (by omega) Sz.aD)) ?_
 refine ai 3 13 rfl (by kernel_rfl) (fun _=>run_move rfl rfl) ?_
 refine ai 4 12 rfl (by kernel_rfl) (fun _=>U9 rfl rfl) ?_
 refine ai 5 11 rfl (by kernel_rfl) (fun _=>U1 rfl rfl dR rfl (fE) (fD)) ?_
 refine ai 6 10 rfl (by kernel_rfl) (fun _=>U1 rfl rfl ay rfl (bK) (bJ)) ?_
 refine aj 7 9 rfl (by kernel_rfl) (fun _ _ _ hz Sz=>.inl (U4 rfl rfl bt rfl ((bu.mono (Hp.Ua hz Sz.mx)).cell Sz.um rfl))) ?_
 refine ai 8 8 rfl (by kernel_rfl) (fun _=>U1 rfl rfl cO rfl (aC) (aB)) ?_
 refine aj 9 7 rfl (by kernel_rfl) (fun _ _ _ hz Sz=>.inl (U4 rfl rfl av rfl (Sz.suf.ar (i:=0) rfl rfl))) ?_
 refine aj 10 6 rfl (by kernel_rfl) (fun _ _ _ hz Sz=>.inl (Ul (C:=aF) ((Ud d x.a x.b).1) rfl rfl rfl cD (by first|rfl|omega) (hsc.mono (Hp.Ua hz Sz.mx)) (by first|omega|(simp only[ls];omega)))) ?_
 refine aj 11 5 rfl (by kernel_rfl) (fun _ _ _ hz Sz=>.inl (U8 (us:=[_,_,_,_,_]) rfl rfl aW rfl cg ((hsc.mono (Hp.Ua hz Sz.mx)).fU Sz.um (e:=(Ud d x.a x.b).1) (by first|omega|(simp only[ls];omega)) (j:=0) ⟨rfl,rfl,rfl,rfl,rfl,trivial⟩))) ?_
 refine ai 12 4 rfl (by kernel_rfl) (fun _=>U1 rfl rfl cO rfl (aC) (aB)) ?_
 refine aj 13 3 rfl (by kernel_rfl) (fun _ _ _ hz Sz=>.inl (U4 rfl rfl av rfl (Sz.suf.ar (i:=0) rfl rfl))) ?_
 refine aj 14 2 rfl (by kernel_rfl) (fun _ _ _ hz Sz=>Ur rfl rfl rfl rfl rfl adz Sz (acv (ga d.ae ((Ud d x.a x.b).1)) (((Ud d x.a x.b).2+3)%4) (by omega) Sz.aD)) ?_
 refine aj 15 1 rfl (by kernel_rfl) (fun _ _ _ hz Sz=>.inl (run_build (l:=[_,_]) rfl rfl zD rfl rfl)) ?_
 refine Un (i:=16) 0 rfl (by kernel_rfl) rfl rfl (fun vz cH=>?_)
 refine(U6 (i:=2) (us:=[_,_]) (l':=[_,_]) (H':=[_,_,_,_]) rfl rfl cH rfl rfl rfl rfl cC rfl rfl rfl rfl ?_)
 intro vw fY;clear cH
 refine aP.turn (by kernel_rfl) fY ?_;clear fY
 change WA _ _ _ _ _ _ _ _ _ _ _ _ [_,_,_,_]
 refine Uu (by kernel_rfl) (fun AG eG=>?_)
 refine ah [4] rfl (U3 (Uk hC [_] rfl rfl ⟨⟨_,rfl,Um (us:=[_,_]) aZ rfl cC (eG.aw (i:=2) rfl ⟨rfl,rfl,trivial⟩)⟩,trivial⟩ ?_))
 exact⟨_,rfl,(eG.pick [] [] (by decide) trivial),rfl⟩
noncomputable def Z1j:=Tryz.f163.body.getD .skip
def Z1k:=cL Z1j
def Z1l:=cR Z1j
def Z1m:=cL Z1l
def Z1n:=cR Z1l
def Z1o:=cL Z1n
def Z1p:=cR Z1n
def Z1q:=cL Z1o
def Z1r:=cR Z1o
def Z1s:=cL Z1r
def Z1t:=cR Z1r
def Z1u:=cL Z1s
def Z1v:=cR Z1s
def Z1w:=cL Z1p
def Z1x:=cR Z1p
set_option maxRecDepth 10000 in
theorem akA{w:World}{M:Hp}{X:Fr}(d:Dg){bL:Nat}{cA iA oA:Option Addr}{cc ic oc:Nat}(c k:Nat)(bu:dG (M.un X.h) bL 70 [.slice cA d.ae.length cc,.int .i64 d.loops,.slice iA (ax d false (4*d.ae.length)).length ic,.slice oA (ax d true (4*d.ae.length)).length oc])(hsc:aG aF (M.un X.h) cA cc d.ae)(hsi:aG br (M.un X.h) iA ic (ax d false (4*d.ae.length)))(aK:aG br (M.un X.h) oA oc (ax d true (4*d.ae.length)))(hn:d.ae.length<=16)(hab:aN d=true)(hc:c<d.ae.length)(hk:k<4)(S:SH w M X []):Cq Tryz.prog 163 [.pointer (some ⟨bL,0,none⟩),.agg [.int .i64 (c:Int),.int .i64 (k:Int)].toArray] w M X (fun u=>u=.agg (o9 (Ud d (Uq d c k) (Uz d c k))).toArray):=by
 unfold Cq
 have hx:=eO hab hc hk
 have hx1:=hx.1
 have hx2:=hx.2
 obtain⟨ny,pX,pg,RR,RQ⟩:=eF hab hx (Uz d c k)
 have htl:∀b,(ax d b (4*d.ae.length)).length=2*d.ae.length+1:=fun b=>gJ d b _
 have htf:=htl false
 have htt:=htl true
 refine Up (b:=Z1j) Tryz.func163 rfl Tryz.ntmps163 rfl (fun C hC=>(bq [(0,_),(1,_)] ⟨rfl,rfl,trivial⟩ (U2 Z1k Z1l rfl rfl rfl (U0 rfl (ak 0 1 rfl rfl rfl (bE (l:=[_,_]) rfl rfl rfl rfl rfl S ?_))))))
 intro aI w1 S1;clear S
 refine ak 1 2 rfl rfl rfl (Uh (l:=[_,_]) rfl rfl rfl oC rfl S1 ?_)
 intro aQ w2 S2;clear S1
 refine U5 rfl (ah [0,3,4] rfl (U3 (U2 Z1m Z1n rfl rfl rfl (U0 rfl (ag 0 1 rfl rfl (af 1 rfl (U8 (us:=[_,_]) rfl rfl cO rfl eA (S2.aw (i:=1) rfl ⟨rfl,rfl,trivial⟩)) (ak 2 3 rfl rfl rfl (cS rfl rfl rfl rfl rfl rfl rfl Dc S2 (EX d c k (bu.mono S2.Uy) (hsc.mono S2.Uy) (hsi.mono S2.Uy) (aK.mono S2.Uy) (by omega) (by omega) S2.aD) ?_))))))))
 rintro _ w3 S3 rfl;clear S2
 refine ag 3 1 rfl rfl (U5 rfl (ah [0,3,4,5] rfl (U3 (U2 Z1o Z1p rfl rfl rfl (U2 Z1q Z1r rfl rfl rfl (bM rfl (by kernel_rfl) S3 12 rfl ?_))))))
 clear S3
 refine ai 0 11 rfl (by kernel_rfl) (fun _=>run_move rfl rfl) ?_
 refine ai 1 10 rfl (by kernel_rfl) (fun _=>U9 rfl rfl) ?_
 refine ai 2 9 rfl (by kernel_rfl) (fun _=>U1 rfl rfl dR rfl (fE) (fD)) ?_
 refine ai 3 8 rfl (by kernel_rfl) (fun _=>U1 rfl rfl ay rfl (bK) (bJ)) ?_
 refine aj 4 7 rfl (by kernel_rfl) (fun _ _ _ hz Sz=>.inl (U4 rfl rfl bt rfl ((bu.mono (Hp.Ua hz Sz.mx)).cell Sz.um rfl))) ?_
 refine ai 5 6 rfl (by kernel_rfl) (fun _=>U1 rfl rfl cO rfl (aC) (aB)) ?_
 refine aj 6 5 rfl (by kernel_rfl) (fun _ _ _ hz Sz=>.inl (U4 rfl rfl av rfl (Sz.suf.ar (i:=1) rfl rfl))) ?_
 refine aj 7 4 rfl (by kernel_rfl) (fun _ _ _ hz Sz=>.inl (Ul (C:=aF) c rfl rfl rfl cD (by first|rfl|omega) (hsc.mono (Hp.Ua hz Sz.mx)) (by first|omega|(simp only[ls];omega)))) ?_
 refine aj 8 3 rfl (by kernel_rfl) (fun _ _ _ hz Sz=>.inl (U8 (us:=[_,_,_,_,_]) rfl rfl aW rfl cg ((hsc.mono (Hp.Ua hz Sz.mx)).fU Sz.um (e:=c) (by first|omega|(simp only[ls];omega)) (j:=0) ⟨rfl,rfl,rfl,rfl,rfl,trivial⟩))) ?_
 refine ai 9 2 rfl (by kernel_rfl) (fun _=>U1 rfl rfl cO rfl (aC) (aB)) ?_
 refine aj 10 1 rfl (by kernel_rfl) (fun _ _ _ hz Sz=>.inl (U4 rfl rfl av rfl (Sz.suf.ar (i:=1) rfl rfl))) ?_
 refine aj 11 0 rfl (by kernel_rfl) (fun _ _ _ hz Sz=>Ur rfl rfl rfl rfl rfl adz Sz (acv (ga d.ae c) k (by omega) Sz.aD)) ?_
 refine Uu (by kernel_rfl) (fun ni cm=>?_)
 refine ah [0,4,5,20] rfl (U3 ?_)
 refine dN Z1s Z1t rfl rfl rfl rfl (fun qJ=>?_) (fun qJ=>?_)
 ·refine U2 Z1u Z1v rfl rfl rfl (U0 rfl (ag 0 1 rfl rfl (af 1 rfl (U9 rfl rfl) (af 2 rfl (U1 rfl rfl dR rfl (oW) (oL)) (af 3 rfl (U4 rfl rfl mX rfl (bu.cell cm.um rfl)) (ag 4 1 rfl rfl (af 5 rfl (Ul (C:=br) ((Uq d c k).toNat) rfl rfl rfl oK (by first|rfl|omega) aK (by first|omega|(simp only[ls];omega))) ?_)))))))
  refine af 6 rfl (U8 (us:=[_,_]) rfl rfl cO rfl eA (aK.fU cm.um (e:=(Uq d c k).toNat) (by first|omega|(simp only[ls];omega)) (j:=0) ⟨rfl,rfl,trivial⟩)) ?_
  refine ak 7 8 rfl rfl rfl (U6 (i:=0) (us:=[_,_]) (l':=[_,_]) (H':=[_,_]) rfl rfl cm rfl rfl rfl rfl eA rfl rfl rfl rfl ?_)
  intro kU bF;clear cm
  refine U5 rfl (ah [4] rfl (U3 (Uk hC [_] rfl rfl ⟨⟨_,rfl,Um (us:=[_,_]) cO rfl eA (bF.aw (i:=0) rfl ⟨rfl,rfl,trivial⟩)⟩,trivial⟩ ?_)))
  exact⟨_,rfl,(bF.pick [] [] (by decide) trivial),(by have jI:Uz d c k=_:=qJ;rw[jI]at pg ⊢;show Value.agg (o9 (ga (ax d _ (4*d.ae.length)) (Uq d c k).toNat)).toArray=_;rw[pg])⟩
 ·refine Ue rfl (ah [0,4,5] rfl (U3 (U2 Z1w Z1x rfl rfl rfl (U0 rfl (ag 0 1 rfl rfl (af 1 rfl (U9 rfl rfl) (af 2 rfl (U1 rfl rfl dR rfl (oW) (oL)) (af 3 rfl (U4 rfl rfl mX rfl (bu.cell cm.um rfl)) ?_))))))))
  refine ag 4 1 rfl rfl (af 5 rfl (Ul (C:=br) ((Uq d c k).toNat) rfl rfl rfl oK (by first|rfl|omega) hsi (by first|omega|(simp only[ls];omega))) ?_)
  refine af 6 rfl (U8 (us:=[_,_]) rfl rfl cO rfl eA (hsi.fU cm.um (e:=(Uq d c k).toNat) (by first|omega|(simp only[ls];omega)) (j:=0) ⟨rfl,rfl,trivial⟩)) ?_
  refine ak 7 8 rfl rfl rfl (U6 (i:=0) (us:=[_,_]) (l':=[_,_]) (H':=[_,_]) rfl rfl cm rfl rfl rfl rfl eA rfl rfl rfl rfl ?_)
  intro tA bU;clear cm
  refine U5 rfl (ah [4] rfl (U3 (Uk hC [_] rfl rfl ⟨⟨_,rfl,Um (us:=[_,_]) cO rfl eA (bU.aw (i:=0) rfl ⟨rfl,rfl,trivial⟩)⟩,trivial⟩ ?_)))
  exact⟨_,rfl,(bU.pick [] [] (by decide) trivial),(by have jI:Uz d c k=_:=qJ;rw[jI]at pg ⊢;show Value.agg (o9 (ga (ax d _ (4*d.ae.length)) (Uq d c k).toNat)).toArray=_;rw[pg])⟩
end Go.Proofs.YthppkofceancjaaGreat
namespace Go.Proofs.YthppkofceancjaaGreat
open Go.ChangeShapes Go.WideShapes Go.ChangeAt Go.RowKit
theorem SH.aoc{w:World}{M:Hp}{X:Fr}{H H':List Rs}{i g:Nat}{T:TypeId}{l:List Value}(S:SH w M X H)(hi:nth H i=some (Rs.box g T l))(hH:H.set i Rs.emp=H'):∃M',M.le M'/\SH w M' X H'/\dG M' g T l:=by
 obtain⟨h1,h2,h3⟩:=S.Rt hi hH
 refine⟨_,h1,h2,?_⟩
 show(M.put w _) g=_
 rw[h3 g (by simp[Rs.box])]
 exact S.get hi
theorem IV:qX Tryz.prog 26 (fun x=>Value.agg (cu.f x).toArray):=ab3 zE (fun x y=>⟨x.a=y.a/\x.b=y.b,⟨_,_,_,_,rfl,rfl,⟨_,_,rfl,rfl,rfl⟩,rfl⟩,⟨fun h=>by cases x;cases y;simp at h;simp[h],fun h=>by rw[h];exact⟨rfl,rfl⟩⟩⟩) (fun k=>by simp[Instr.sameBits,cu,yc])
def dA(c:Nat):Da:=⟨((c/2:Nat):Int),decide (c%2=1)⟩
def uE(k:Nat):Da:=dA (k+2)
def zZ(k:Nat):Value:=.agg (yc (uE k)).toArray
def alL(g:Nat)(u:Value)(M:Hp):Prop:=∃b,u=.func (.func 164) #[] [.pointer (some ⟨b,0,none⟩)].toArray/\dG M b 64 [.pointer (some ⟨g,0,none⟩)]
theorem akh(a i:Nat)(hi:i<2):(Value.agg [.int .i64 ((a:Int)+1),.bool (ga [false,true] i)].toArray)=zZ (2*a+i):=by
 have e:i=0\/i=1:=by omega
 unfold zZ uE dA
 rcases e with rfl|rfl
 ·rw[show(2*a+0+2)/2=a+1 by omega,show(2*a+0+2)%2=0 by omega];rfl
 ·rw[show(2*a+1+2)/2=a+1 by omega,show(2*a+1+2)%2=1 by omega];rfl
noncomputable def Z1y:=Tryz.f107.body.getD .skip
def Z1z:=cL Z1y
def Z20:=cR Z1y
def Z21:=cL Z20
def Z22:=cR Z20
set_option maxRecDepth 10000 in
theorem akC{w:World}{M:Hp}{X:Fr}(d:Dg){bL:Nat}{cA iA oA:Option Addr}{cc ic oc:Nat}(bu:dG (M.un X.h) bL 70 [.slice cA d.ae.length cc,.int .i64 d.loops,.slice iA (ax d false (4*d.ae.length)).length ic,.slice oA (ax d true (4*d.ae.length)).length oc])(hsc:aG aF (M.un X.h) cA cc d.ae)(hsi:aG br (M.un X.h) iA ic (ax d false (4*d.ae.length)))(aK:aG br (M.un X.h) oA oc (ax d true (4*d.ae.length)))(S:SH w M X []):Ct Tryz.prog 107 [.pointer (some ⟨bL,0,none⟩)] w M X (alL bL):=by
 unfold Ct
 refine Up (b:=Z1y) Tryz.func107 rfl Tryz.ntmps107 rfl (fun C hC=>?_)
 refine bq [(0,_)] ⟨rfl,trivial⟩ ?_
 refine U2 Z1z Z20 rfl rfl rfl ?_
 refine U0 rfl ?_
 refine Ut (k:=0) (k':=1) rfl rfl rfl (bE (l:=[_]) rfl rfl rfl rfl rfl S ?_)
 intro aI w1 S1;clear S
 refine Ut (k:=1) (k':=2) rfl rfl rfl (Ub rfl rfl (run_assign rfl rfl) ?_)
 refine U5 rfl ?_
 refine bN [(1,_)] ⟨rfl,trivial⟩ ?_
 refine U3 ?_
 refine U2 Z21 Z22 rfl rfl rfl ?_
 refine U0 rfl ?_
 refine Ut (k:=0) (k':=1) rfl rfl rfl (Ub rfl rfl (vZ (vs:=[_]) rfl rfl rfl rfl) ?_)
 refine Ut (k:=1) (k':=2) rfl rfl rfl (Ub rfl rfl (run_assign rfl rfl) ?_)
 refine U5 rfl ?_
 refine bN [(2,_)] ⟨rfl,trivial⟩ ?_
 refine U3 ?_
 obtain⟨M1,aL,S2,Jo⟩:=S1.aoc (i:=0) (H':=[_]) rfl rfl
 clear S1
 replace bu:=bu.mono (Hp.Ua aL S2.mx)
 replace hsc:=hsc.mono (Hp.Ua aL S2.mx)
 replace hsi:=hsi.mono (Hp.Ua aL S2.mx)
 replace aK:=aK.mono (Hp.Ua aL S2.mx)
 refine Uk hC [_] rfl rfl ⟨rfl,trivial⟩ ?_
 refine⟨_,rfl,_,aL,(S2.pick [] [] (by decide) trivial),?_⟩
 exact⟨_,rfl,Jo⟩
namespace InF
noncomputable def Z23:=Tryz.f164.body.getD .skip
def Z24:=cL Z23
def Z25:=cR Z23
def Z26:=cL Z25
def Z27:=cL Z26
def Z28:=cL Z27
def Z29:=cR Z27
def Z2a:=cL Z28
def Z2b:=cR Z28
def Z2c:=cL Z2b
def Z2d:=cR Z2b
def Z2e:=cL Z29
def Z2f:=cR Z29
def Z2g:=cL Z2e
def Z2h:=cL Z2g
def Z2i:=cR Z2g
def Z2j:=cL Z2i
def Z2k:=cL Z2j
def Z2l:=cL Z2k
def Z2m:=cR Z2k
def Z2n:=cL Z2m
def Z2o:=cR Z2m
def Z2p:=cL Z2n
def Z2q:=cR Z2n
def Z2r:=cL Z2o
def Z2s:=cR Z2o
def Z2t:=cL Z2r
def Z2u:=cL Z2t
def Z2v:=cR Z2t
def Z2w:=cL Z2v
def Z2x:=cR Z2v
def Z2y:=cR Z2x
set_option maxRecDepth 10000 in
theorem ahs{M:Hp}{X:Fr}(d:Dg){bL:Nat}{cA iA oA:Option Addr}{cc ic oc:Nat}{b:Nat}(bu:dG (M.un X.h) bL 70 [.slice cA d.ae.length cc,.int .i64 d.loops,.slice iA (ax d false (4*d.ae.length)).length ic,.slice oA (ax d true (4*d.ae.length)).length oc])(hsc:aG aF (M.un X.h) cA cc d.ae)(hsi:aG br (M.un X.h) iA ic (ax d false (4*d.ae.length)))(aK:aG br (M.un X.h) oA oc (ax d true (4*d.ae.length)))(jH:dG M b 64 [.pointer (some ⟨bL,0,none⟩)])(hn:d.ae.length<=16):Iter Tryz.prog 164 [.pointer (some ⟨b,0,none⟩)] zZ (4*d.ae.length) M X:=by
 intro l J w M1 B hle0 hY S hJ0
 replace bu:=bu.mono (Hp.Ua hle0 S.mx)
 replace hsc:=hsc.mono (Hp.Ua hle0 S.mx)
 replace hsi:=hsi.mono (Hp.Ua hle0 S.mx)
 replace aK:=aK.mono (Hp.Ua hle0 S.mx)
 replace jH:=jH.mono hle0
 refine Up (b:=Z23) Tryz.func164 rfl Tryz.ntmps164 rfl (fun C tB hC=>?_)
 have hCF:C.F=Fence.wide:=by unfold Ctx.F;rw[tB]
 refine bq [(0,_),(1,_)] ⟨rfl,rfl,trivial⟩ ?_
 refine U2 Z24 Z25 rfl rfl rfl ?_
 refine U0 rfl ?_
 refine Ut (k:=0) (k':=1) rfl rfl rfl (Ub rfl rfl (run_assign rfl rfl) ?_)
 refine U5 rfl ?_
 refine U3 ?_
 refine Uc Z26 0 rfl rfl rfl ?_
 refine Ux (fun aS au aM=>∃(a:Nat) (B1:Rs) (M2:Hp),M1.le M2/\aS=2*d.ae.length-a/\Env 23 [(0,.func (.yield l) #[] #[]),(1,.pointer (some ⟨b,0,none⟩)),(3,.int .i64 ((a:Int)+1))] au/\SH aM M2 X [B1]/\a<=2*d.ae.length/\J (2*a) M2 B1) rfl ?_ ?_
 ·intro au aq
  refine⟨_,⟨0,_,_,Hp.le_refl _,rfl,aq.sub ⟨rfl,rfl,rfl,trivial⟩,S.pick [0] [_] (by decide) ⟨rfl,trivial⟩,?cd,?dm⟩⟩
  case cd=>omega
  case dm=>exact hJ0
 ·rintro m1 a1 w1 ⟨a,B1,M2,aL,rfl,aY,S1,ha,hJa⟩
  clear S
  refine bX aY (c:=Z27) rfl ?_
  clear aY a1
  replace bu:=bu.mono (Hp.Ua aL S1.mx)
  replace hsc:=hsc.mono (Hp.Ua aL S1.mx)
  replace hsi:=hsi.mono (Hp.Ua aL S1.mx)
  replace aK:=aK.mono (Hp.Ua aL S1.mx)
  replace jH:=jH.mono aL
  refine U2 Z28 Z29 rfl rfl rfl ?_
  refine U2 Z2a Z2b rfl rfl rfl ?_
  refine U0 rfl ?_
  refine Ut (k:=0) (k':=1) rfl rfl rfl (Ub rfl rfl (run_move rfl rfl) ?_)
  refine Ut (k:=1) (k':=2) rfl rfl rfl (Ub rfl rfl (U4 rfl rfl dt rfl (jH.cell S1.m rfl)) ?_)
  refine Ut (k:=2) (k':=3) rfl rfl rfl (cS rfl rfl rfl rfl rfl rfl rfl sG S1 (r8 d (bu.mono S1.Uy) (hsc.mono S1.Uy) (hsi.mono S1.Uy) (aK.mono S1.Uy) (by omega) S1.aD) ?_)
  rintro _ w2 S2 rfl;clear S1
  refine Ut (k:=3) (k':=4) rfl rfl rfl (Ub rfl rfl (od rfl rfl rfl) ?_)
  refine U5 rfl ?_
  refine bN [(0,_),(1,_),(3,_),(9,_)] ⟨rfl,rfl,rfl,rfl,trivial⟩ ?_
  refine U3 ?_
  refine dN Z2c Z2d rfl rfl rfl rfl (fun jI=>?_) (fun jI=>?_)
  ·replace jI:=of_decide_eq_true jI
   refine Ue rfl ?_
   refine bN [(0,_),(1,_),(3,_)] ⟨rfl,rfl,rfl,trivial⟩ ?_
   refine U3 ?_
   refine U2 Z2e Z2f rfl rfl rfl ?_
   refine Uc Z2g 1 rfl rfl rfl ?_
   refine U2 Z2h Z2i rfl rfl rfl ?_
   refine U0 rfl ?_
   refine Ut (k:=0) (k':=1) rfl rfl rfl (Ub rfl rfl (jN (l:=[_,_]) (pl:=[(0,1),(1,1)]) rfl rfl ac5 alN xU rfl rfl rfl) ?_)
   refine Ut (k:=1) (k':=2) rfl rfl rfl (Ub rfl rfl (run_move rfl rfl) ?_)
   refine U5 rfl ?_
   refine U3 ?_
   refine Uc Z2j 2 rfl rfl rfl ?_
   refine Ux (fun aS au aM=>∃(i:Nat) (B2:Rs) (M3:Hp),M2.le M3/\aS=2-i/\Env 23 [(0,.func (.yield l) #[] #[]),(1,.pointer (some ⟨b,0,none⟩)),(3,.int .i64 ((a:Int)+1)),(12,.agg [.bool false,.bool true].toArray),(13,.int .i64 (i:Int))] au/\SH aM M3 X [B2]/\i<=2/\J (2*a+i) M3 B2) rfl ?_ ?_
   ·intro au aq
    refine⟨_,⟨0,_,_,Hp.le_refl _,rfl,aq.sub ⟨rfl,rfl,rfl,rfl,rfl,trivial⟩,S2.pick [0] [_] (by decide) ⟨rfl,trivial⟩,?cx,?dC⟩⟩
    case cx=>omega
    case dC=>exact hJa
   ·rintro m2 a2 w3 ⟨i,B2,M3,hle2,rfl,cB,S3,hi,hJi⟩
    clear S2
    refine bX cB (c:=Z2k) rfl ?_
    clear cB a2
    replace bu:=bu.mono (Hp.Ua hle2 S3.mx)
    replace hsc:=hsc.mono (Hp.Ua hle2 S3.mx)
    replace hsi:=hsi.mono (Hp.Ua hle2 S3.mx)
    replace aK:=aK.mono (Hp.Ua hle2 S3.mx)
    replace jH:=jH.mono hle2
    refine U2 Z2l Z2m rfl rfl rfl ?_
    refine U0 rfl ?_
    refine Ut (k:=0) (k':=1) rfl rfl rfl (Ub rfl rfl (bS rfl rfl rfl) ?_)
    refine U5 rfl ?_
    refine U3 ?_
    refine U2 Z2n Z2o rfl rfl rfl ?_
    refine dN Z2p Z2q rfl rfl rfl rfl (fun iq=>?_) (fun iq=>?_)
    ·replace iq:=of_decide_eq_true iq
     refine Ue rfl ?_
     refine bN [(0,_),(1,_),(3,_),(12,_),(13,_)] ⟨rfl,rfl,rfl,rfl,rfl,trivial⟩ ?_
     refine U3 ?_
     refine U2 Z2r Z2s rfl rfl rfl ?_
     refine Uc Z2t 3 rfl rfl rfl ?_
     refine U2 Z2u Z2v rfl rfl rfl ?_
     refine U0 rfl ?_
     refine Ut (k:=0) (k':=1) rfl rfl rfl (Ub rfl rfl (yn (e:=i) rfl rfl rfl ac5 dL rfl xU (by first|rfl|omega) (by first|omega|(simp only[ls];omega)) (ak1 [false,true] i (by simp;first|omega|(simp only[ls];omega)))) ?_)
     refine Ut (k:=1) (k':=2) rfl rfl rfl (Ub rfl rfl (run_assign rfl rfl) ?_)
     refine U5 rfl ?_
     refine bN [(0,_),(1,_),(3,_),(12,_),(13,_),(5,_)] ⟨rfl,rfl,rfl,rfl,rfl,rfl,trivial⟩ ?_
     refine U3 ?_
     refine U2 Z2w Z2x rfl rfl rfl ?_
     refine U0 rfl ?_
     refine Ut (k:=0) (k':=1) rfl rfl rfl (Ub rfl rfl (run_move rfl rfl) ?_)
     refine Ut (k:=1) (k':=2) rfl rfl rfl (Ub rfl rfl (run_move rfl rfl) ?_)
     refine Ut (k:=2) (k':=3) rfl rfl rfl (Ub rfl rfl (run_move rfl rfl) ?_)
     refine Ut (k:=3) (k':=4) rfl rfl rfl (Ub rfl rfl (run_build (l:=[_,_]) rfl rfl zD rfl rfl) ?_)
     have aef:2*a+i<4*d.ae.length:=by omega
     refine aiC (k:=4) (k':=5) rfl rfl rfl rfl rfl rfl rfl rfl rfl rfl (by rw[hCF];have h9:=hY (2*a+i) _ _ _ (by omega) (aL.trans hle2) S3 hJi;rw[<-akh a i (by omega)]at h9;exact h9) ?_
     rintro _ w4 ⟨rfl,M4,B6,dh,S4,hJ1⟩;clear S3
     replace bu:=bu.mono (Hp.Ua dh S4.mx)
     replace hsc:=hsc.mono (Hp.Ua dh S4.mx)
     replace hsi:=hsi.mono (Hp.Ua dh S4.mx)
     replace aK:=aK.mono (Hp.Ua dh S4.mx)
     replace jH:=jH.mono dh
     refine Ut (k:=5) (k':=6) rfl rfl rfl (Ub rfl rfl (dS rfl rfl) ?_)
     refine U5 rfl ?_
     refine bN [(0,_),(1,_),(3,_),(12,_),(13,_),(21,_)] ⟨rfl,rfl,rfl,rfl,rfl,rfl,trivial⟩ ?_
     refine U3 ?_
     refine jz Z2y rfl rfl rfl ?_
     refine Ue rfl ?_
     refine bj ?_
     refine bN [(0,_),(1,_),(3,_),(12,_),(13,_)] ⟨rfl,rfl,rfl,rfl,rfl,trivial⟩ ?_
     refine U3 ?_
     refine U0 rfl ?_
     refine Ut (k:=0) (k':=1) rfl rfl rfl (Ub rfl rfl (Ug rfl rfl rfl (by first|omega|(simp only[ls];omega))) ?_)
     refine Ut (k:=1) (k':=2) rfl rfl rfl (Ub rfl rfl (run_move rfl rfl) ?_)
     refine U5 rfl ?_
     refine aO ?_
     intro au aq
     refine⟨_,?lM,⟨i+1,_,_,(hle2.trans dh),rfl,aq.sub ⟨rfl,rfl,rfl,rfl,rfl,trivial⟩,S4.pick [0] [_] (by decide) ⟨rfl,trivial⟩,?eB,?gu⟩⟩
     case eB=>omega
     case gu=>first|assumption|(rw[show 2*a+(i+1)=2*a+i+1 by omega];assumption)
     case lM=>omega
    ·replace iq:=of_decide_eq_false iq
     refine bP rfl rfl ?_
     refine bj ?_
     refine bN [(0,_),(1,_),(3,_)] ⟨rfl,rfl,rfl,trivial⟩ ?_
     refine U3 ?_
     refine U0 rfl ?_
     refine Ut (k:=0) (k':=1) rfl rfl rfl (Ub rfl rfl (run_move rfl rfl) ?_)
     refine Ut (k:=1) (k':=2) rfl rfl rfl (Ub rfl rfl (Ug rfl rfl rfl (by first|omega|(simp only[ls];omega))) ?_)
     refine Ut (k:=2) (k':=3) rfl rfl rfl (Ub rfl rfl (run_assign rfl rfl) ?_)
     refine U5 rfl ?_
     refine aO ?_
     intro au aq
     refine⟨_,?kx,⟨a+1,_,_,(aL.trans hle2),rfl,aq.sub ⟨rfl,rfl,rfl,trivial⟩,S3.pick [0] [_] (by decide) ⟨rfl,trivial⟩,?eW,?gq⟩⟩
     case eW=>omega
     case gq=>(rw[show 2*(a+1)=2*a+i by omega];exact hJi)
     case kx=>omega
  ·replace jI:=of_decide_eq_false jI
   refine bP rfl rfl ?_
   refine iC hC [] rfl trivial ?_
   refine⟨⟨_,rfl⟩,_,_,aL,S2,?_⟩
   rw[show 4*d.ae.length=2*a by omega]
   exact hJa
end InF
end Go.Proofs.YthppkofceancjaaGreat
namespace Go.Proofs.YthppkofceancjaaGreat
open Go.RowKit
def free(seen:List Bool):Nat:=seen.countP (fun b=>!b)
theorem nC{seen:List Bool}{x:Nat}(h:x<seen.length)(hx:ga seen x=false):free (seen.set x true)+1=free seen:=by
 induction seen generalizing x with
 |nil=>simp at h
 |cons b seen ih=>
  cases x with
  |zero=>
   have:b=false:=by simpa[ga]using hx
   subst this
   simp[free]
  |succ x=>
   have h1:ga (b::seen) (x+1)=ga seen x:=by simp[ga]
   rw[h1]at hx
   have h2:=ih (by simpa using h) hx
   unfold free at*
   rw[List.set_cons_succ,List.countP_cons,List.countP_cons]
   omega
def eY(nx:Nat->Nat)(seen:List Bool)(x:Nat)(acc:List Int):List Bool×List Int:=
 if _h:x<seen.length/\ga seen x=false then eY nx (seen.set x true) (nx x) (acc++[(x:Int)])else(seen,acc)
termination_by free seen
decreasing_by have := nC _h.1 _h.2; omega
theorem rG{nx:Nat->Nat}{seen:List Bool}{x:Nat}{acc:List Int}(h:x<seen.length)(hx:ga seen x=false):eY nx seen x acc=eY nx (seen.set x true) (nx x) (acc++[(x:Int)]):=by
 rw[eY];simp[h,hx]
theorem F3{nx:Nat->Nat}{seen:List Bool}{x:Nat}{acc:List Int}(hx:ga seen x=true):eY nx seen x acc=(seen,acc):=by
 rw[eY];simp[hx]
theorem ah3(nx:Nat->Nat)(seen:List Bool)(x:Nat)(acc:List Int):(eY nx seen x acc).1.length=seen.length:=by
 induction hk:free seen using Nat.strongRecOn generalizing seen x acc with
 |_ k ih=>
  by_cases h:x<seen.length/\ga seen x=false
  ·rw[rG h.1 h.2]
   have:=nC h.1 h.2
   rw[ih (free (seen.set x true)) (by omega) _ _ _ rfl,List.length_set]
  ·rw[eY];simp[h]
end Go.Proofs.YthppkofceancjaaGreat
namespace Go.Proofs.YthppkofceancjaaGreat
open Go.ChangeShapes Go.WideShapes Go.ChangeAt Go.RowKit
def jX(x:Da):Nat:=(2*x.a+(if x.b=true then 1 else 0)).toNat
theorem HI{x:Da}(h:0<=x.a):dA (jX x)=x:=by
 obtain⟨a,b⟩:=x
 simp only at h
 unfold dA jX
 cases b
 ·simp only[Bool.false_eq_true,if_false,Int.add_zero]
  congr 1
  ·omega
  ·rw[decide_eq_false_iff_not];omega
 ·simp only[if_true]
  congr 1
  ·omega
  ·rw[decide_eq_true_iff];omega
theorem wR(c:Nat):jX (dA c)=c:=by
 unfold jX dA
 by_cases h:c%2=1
 ·simp only[h,decide_true,if_true];omega
 ·simp only[h,decide_false,Bool.false_eq_true,if_false];omega
theorem acX{c e:Nat}(h:dA c=dA e):c=e:=by rw[<-wR c,h,wR]
theorem kN{d:Dg}{c:Nat}(h:2<=c/\c<4*d.ae.length+2):okD d (dA c):=by
 show 1<=((c/2:Nat):Int)/\((c/2:Nat):Int)<=2*(d.ae.length:Int)
 omega
def cQ(d:Dg)(c:Nat):Nat:=jX (jR d (dA c))
theorem wG{d:Dg}{x:Da}(h:okD d x):2<=jX x/\jX x<4*d.ae.length+2:=by
 unfold okD at h
 unfold jX
 split<;>omega
theorem wD{d:Dg}(hab:aN d=true){c:Nat}(h:2<=c/\c<4*d.ae.length+2):2<=cQ d c/\cQ d c<4*d.ae.length+2:=wG (abt hab (kN h))
theorem ug{d:Dg}(hab:aN d=true){c:Nat}(h:2<=c/\c<4*d.ae.length+2):dA (cQ d c)=jR d (dA c):=HI (by have:=abt hab (kN h);unfold okD at this;omega)
def ey(d:Dg):Nat->List Bool×List (List Int)
 |0=>(List.replicate (4*d.ae.length+2) false,[])
 |k+1=>
  let s:=ey d k
  if ga s.1 (k+2)=true then s else((eY (cQ d) s.1 (k+2) []).1,s.2++[(eY (cQ d) s.1 (k+2) []).2])
theorem rK{d:Dg}{k:Nat}{s:List Bool×List (List Int)}(h:ey d k=s)(hg:ga s.1 (k+2)=true):ey d (k+1)=s:=by
 subst h
 show(if _ then _ else _)=_
 rw[if_pos hg]
theorem rJ{d:Dg}{k:Nat}{s:List Bool×List (List Int)}{r:List Bool×List Int}(h:ey d k=s)(hg:ga s.1 (k+2)=false)(hr:eY (cQ d) s.1 (k+2) []=r):ey d (k+1)=(r.1,s.2++[r.2]):=by
 subst h;subst hr
 show(if _ then _ else _)=_
 rw[if_neg (by rw[hg];exact Bool.false_ne_true)]
theorem vV(d:Dg)(k:Nat):(ey d k).1.length=4*d.ae.length+2:=by
 induction k with
 |zero=>simp[ey]
 |succ k ih=>
  cases hg:ga (ey d k).1 (k+2)with
  |true=>rw[rK rfl hg];exact ih
  |false=>rw[rJ rfl hg rfl,ah3];exact ih
theorem BF(d:Dg)(k:Nat):(ey d k).2.length<=k:=by
 induction k with
 |zero=>simp[ey]
 |succ k ih=>
  cases hg:ga (ey d k).1 (k+2)with
  |true=>rw[rK rfl hg];omega
  |false=>rw[rJ rfl hg rfl];simp;omega
def iL(r:List Int):List Da:=r.map fun c=>dA c.toNat
theorem aaZ(r:List Int)(c:Nat):iL (r++[(c:Int)])=iL r++[dA c]:=by unfold iL;rw[List.map_append];rfl
def wQ(d:Dg)(k:Nat):List (List Da):=(ey d k).2.map iL
def U7(d:Dg):List (List Da):=wQ d (4*d.ae.length)
def sI(d:Dg)(es:List (Da×Bool))(seen:List Bool):Prop:=∀c,2<=c->c<4*d.ae.length+2->(mg (dA c) es).getD false=ga seen c
theorem sI.eX(d:Dg):sI d [] (List.replicate (4*d.ae.length+2) false):=fun c _ hc=>by rw[wO _ _ _ hc];rfl
theorem sI.put{d:Dg}{es:List (Da×Bool)}{seen:List Bool}(h:sI d es seen){c:Nat}(hc:c<seen.length):sI d (mp (dA c) true es) (seen.set c true):=fun e h1 h2=>by
 rw[C4,eU _ _ _ _ hc]
 by_cases he:c=e
 ·subst he;rw[if_pos rfl,if_pos rfl];rfl
 ·rw[if_neg (fun e'=>he (acX e').symm),if_neg he];exact h e h1 h2
def rfA:Code->Code
 |.rangeFunc _ _ a _=>a
 |c=>c
def Ff:Code->Code
 |.rangeFunc _ _ _ b=>b
 |c=>c
def CU(d:Dg)(bL g1 g3 g4 gm k:Nat)(M:Hp)(H:List Rs):Prop:=∃es vs ad6 seen jb,
 H=[Rs.mp (fun x=>Value.agg (cu.f x).toArray) Value.bool gm es,Rs.box g4 65 [ad6],Rs.row (di 141) ad6 vs,Rs.box g3 192 [.map (some gm)],Rs.box g1 64 [.pointer (some ⟨bL,0,none⟩)]]/\fy cu M vs (jb.map iL)/\ey d k=(seen,jb)/\sI d es seen
def GV(d:Dg)(bL g1 g3 g4 gm k:Nat)(a:Act)(M:Hp)(H:List Rs):Prop:=∃g5 H',Env 35 [(1,.pointer (some ⟨g1,0,none⟩)),(3,.pointer (some ⟨g3,0,none⟩)),(4,.pointer (some ⟨g4,0,none⟩)),(5,.pointer (some ⟨g5,0,none⟩))] a/\H=Rs.box g5 26 [.int .i64 (uE k).a,.bool (uE k).b]::H'/\CU d bL g1 g3 g4 gm k M H'
noncomputable def wz:Code:=cL (cR (cL (cR (cR (cR (Tryz.f66.body.getD .skip))))))
namespace InF
set_option maxRecDepth 10000 in
theorem ahg{w:World}{M:Hp}{X:Fr}{d:Dg}{bL tF tE tD gm k:Nat}{C:Ctx}{R0:Rs}{H:List Rs}{L:List (Nat×Value)}(hL:Sub L [(1,.pointer (some ⟨tF,0,none⟩)),(3,.pointer (some ⟨tE,0,none⟩)),(4,.pointer (some ⟨tD,0,none⟩)),(11,zZ k)])(S:SH w M X (R0::H))(hI:CU d bL tF tE tD gm k M H):
  WS Tryz.prog 35 C (rfA wz) [.lp (fun a w2=>∃M2 H2,M.le M2/\SH w2 M2 X (R0::H2)/\GV d bL tF tE tD gm k a M2 H2)] L w:=by
 obtain⟨es,vs,uj,seen,jb,rfl,fJ,hfn,pV⟩:=hI
 change SH w M X [R0,Rs.mp (fun x=>Value.agg (cu.f x).toArray) Value.bool gm es,_,Rs.row (di 141) uj vs,_,_]at S
 refine bq _ hL ?_
 refine U0 rfl ?_
 refine Ut (k:=0) (k':=1) rfl rfl rfl (Uh (l:=[_,_]) rfl rfl rfl nN rfl S ?_)
 intro aI w1 S1;clear S
 refine Ut (k:=1) (k':=2) rfl rfl rfl (U6 (i:=0) (us:=[_,_]) (l':=[_,_]) (H':=[_,_,_,_,_,_,_]) rfl rfl S1 rfl rfl rfl rfl cC rfl rfl rfl rfl ?_)
 intro w2 S2;clear S1
 refine U5 rfl ?_
 refine aO ?_
 intro au aq
 exact⟨M,_,Hp.le_refl _,S2.pick [1,0,2,3,4,5,6] [_,_,_,_,_,_,_] (by decide) ⟨rfl,rfl,rfl,rfl,rfl,rfl,rfl,trivial⟩,_,_,aq.sub ⟨rfl,rfl,rfl,rfl,trivial⟩,rfl,es,vs,uj,seen,jb,rfl,fJ,hfn,pV⟩
def Z2z:=Ff wz
def Z30:=cL Z2z
def Z31:=cL Z30
def Z32:=cR Z30
def Z33:=cL Z31
def Z34:=cR Z31
def Z35:=cL Z34
def Z36:=cR Z34
def Z37:=cL Z32
def Z38:=cR Z32
def Z39:=cL Z38
def Z3a:=cR Z38
def Z3b:=cL Z39
def Z3c:=cR Z39
def Z3d:=cL Z3c
def Z3e:=cL Z3d
def Z3f:=cL Z3e
def Z3g:=cR Z3e
def Z3h:=cL Z3f
def Z3i:=cR Z3f
def Z3j:=cL Z3i
def Z3k:=cR Z3i
def Z3l:=cL Z3g
def Z3m:=cR Z3g
def Z3n:=cL Z3l
def Z3o:=cL Z3n
def Z3p:=cR Z3n
def Z3q:=cL Z3m
def Z3r:=cR Z3m
def Z3s:=cL Z3q
def Z3t:=cR Z3q
set_option maxHeartbeats 1000000 in
set_option maxRecDepth 10000 in
theorem ahR{w:World}{M:Hp}{X:Fr}(d:Dg){bL tF tE tD gm k:Nat}{cA iA oA:Option Addr}{cc ic oc:Nat}(bu:dG (M.un X.h) bL 70 [.slice cA d.ae.length cc,.int .i64 d.loops,.slice iA (ax d false (4*d.ae.length)).length ic,.slice oA (ax d true (4*d.ae.length)).length oc])(hsc:aG aF (M.un X.h) cA cc d.ae)(hsi:aG br (M.un X.h) iA ic (ax d false (4*d.ae.length)))(aK:aG br (M.un X.h) oA oc (ax d true (4*d.ae.length)))(hn:d.ae.length<=16)(hab:aN d=true)(hk:k<4*d.ae.length){C:Ctx}{R0:Rs}{H:List Rs}{a:Act}(S:SH w M X (R0::H))(Bl:GV d bL tF tE tD gm k a M H):
  (Ff wz).wpIn C.F 0 Tryz.prog (post Tryz.prog C [.lp (fun _ w2=>∃M2 H2,M.le M2/\SH w2 M2 X (R0::H2)/\CU d bL tF tE tD gm (k+1) M2 H2)]) a w:=by
 obtain⟨gq5,H1,ha,rfl,es,vs,uj,seen,jb,rfl,fJ,hfn,pV⟩:=Bl
 change SH w M X [R0,Rs.box gq5 _ _,Rs.mp (fun x=>Value.agg (cu.f x).toArray) Value.bool gm es,_,Rs.row (di 141) uj vs,_,_]at S
 have hdn:okD d (uE k):=kN (by omega)
 have hvs:=fJ.1
 have lD:=BF d k
 rw[hfn]at lD
 replace lD:jb.length<=k:=lD
 rw[List.length_map]at hvs
 refine bX ha (c:=Ff wz) rfl ?_
 refine Uc Z30 1 rfl rfl rfl ?_
 refine U2 Z31 Z32 rfl rfl rfl ?_
 refine U2 Z33 Z34 rfl rfl rfl ?_
 refine U0 rfl ?_
 refine Ut (k:=0) (k':=1) rfl rfl rfl (Ub rfl rfl (U4 rfl rfl wU rfl (S.ar (i:=5) rfl rfl)) ?_)
 refine Ut (k:=1) (k':=2) rfl rfl rfl (Ub rfl rfl (U8 (us:=[_,_]) rfl rfl aZ rfl cC (S.aw (i:=1) rfl ⟨rfl,rfl,trivial⟩)) ?_)
 refine Ut (k:=2) (k':=3) rfl rfl rfl (Ub rfl rfl (yo (kc:=(fun x=>Value.agg (cu.f x).toArray)) (vc:=Value.bool) (es:=es) (k:=(uE k)) (zv:=false) (i:=2) rfl rfl rfl wU IV Q0 S rfl) ?_)
 refine U5 rfl ?_
 refine bN [(1,_),(3,_),(4,_),(5,_),(14,_)] ⟨rfl,rfl,rfl,rfl,rfl,trivial⟩ ?_
 refine U3 ?_
 refine dN Z35 Z36 rfl rfl rfl rfl (fun iq=>?_) (fun iq=>?_)
 ·refine bP rfl rfl ?_
  refine aO ?_
  intro au aq
  exact⟨_,_,Hp.le_refl _,S.pick [0,2,3,4,5,6] [_,_,_,_,_,_] (by decide) ⟨rfl,rfl,rfl,rfl,rfl,rfl,trivial⟩,es,vs,uj,seen,jb,rfl,fJ,rK hfn (by rw[<-pV (k+2) (by omega) (by omega)];exact iq),pV⟩
 ·refine Ue rfl ?_
  refine bN [(1,_),(3,_),(4,_),(5,_)] ⟨rfl,rfl,rfl,rfl,trivial⟩ ?_
  refine U3 ?_
  refine U2 Z37 Z38 rfl rfl rfl ?_
  refine U0 rfl ?_
  refine Ut (k:=0) (k':=1) rfl rfl rfl (Ub rfl rfl (run_assign rfl rfl) ?_)
  refine U5 rfl ?_
  refine U3 ?_
  refine U2 Z39 Z3a rfl rfl rfl ?_
  refine U2 Z3b Z3c rfl rfl rfl ?_
  refine U0 rfl ?_
  refine Ut (k:=0) (k':=1) rfl rfl rfl (Ub rfl rfl (U8 (us:=[_,_]) rfl rfl aZ rfl cC (S.aw (i:=1) rfl ⟨rfl,rfl,trivial⟩)) ?_)
  refine Ut (k:=1) (k':=2) rfl rfl rfl (Uh (l:=[_,_]) rfl rfl rfl nN rfl S ?_)
  intro aI w1 S1;clear S
  refine Ut (k:=2) (k':=3) rfl rfl rfl (U6 (i:=0) (us:=[_,_]) (l':=[_,_]) (H':=[_,_,_,_,_,_,_,_]) rfl rfl S1 rfl rfl rfl rfl cC rfl rfl rfl rfl ?_)
  intro w2 S2;clear S1
  refine U5 rfl ?_
  refine bN [(1,_),(3,_),(4,_),(6,_),(7,_)] ⟨rfl,rfl,rfl,rfl,rfl,trivial⟩ ?_
  refine U3 ?_
  refine Uc Z3d 2 rfl rfl rfl ?_
  have S3:=S2.nH cu;clear S2
  refine Ux (fun aS au aM=>∃(p7:List (Da×Bool)) (gj:List Bool) (x:Nat) (y:Da) (acc:List Int) (mo:List Da) (uk:Value) (vP:Nat),aS=free gj/\Env 35 [(1,.pointer (some ⟨tF,0,none⟩)),(3,.pointer (some ⟨tE,0,none⟩)),(4,.pointer (some ⟨tD,0,none⟩)),(6,uk),(7,.pointer (some ⟨vP,0,none⟩))] au/\SH aM M X [Rs.row cu uk mo,Rs.box vP 26 [.int .i64 y.a,.bool y.b],R0,Rs.mp (fun x=>Value.agg (cu.f x).toArray) Value.bool gm p7,Rs.box tD 65 [uj],Rs.row (di 141) uj vs,Rs.box tE 192 [.map (some gm)],Rs.box tF 64 [.pointer (some ⟨bL,0,none⟩)]]/\eY (cQ d) seen (k+2) []=eY (cQ d) gj x acc/\mo=iL acc/\sI d p7 gj/\(2<=x/\x<4*d.ae.length+2)/\gj.length=4*d.ae.length+2/\y=dA x/\acc.length+free gj<=100) rfl ?_ ?_
  ·intro au aq
   refine⟨_,⟨es,seen,k+2,uE k,[],_,_,_,rfl,aq.sub ⟨rfl,rfl,rfl,rfl,rfl,trivial⟩,S3.pick [0,1,2,4,5,6,7,8] [_,_,_,_,_,_,_,_] (by decide) ⟨rfl,rfl,rfl,rfl,rfl,rfl,rfl,rfl,trivial⟩,?cd,?dm,?mW,?uC,?amx,?amw,?amv⟩⟩
   case cd=>rfl
   case dm=>rfl
   case mW=>exact pV
   case uC=>omega
   case amx=>(have h9:=vV d k;rw[hfn]at h9;exact h9)
   case amw=>rfl
   case amv=>(have h9:=vV d k;rw[hfn]at h9;have h8:free seen<=seen.length:=List.countP_le_length;simp only[List.length_nil];simp only at h9;omega)
  ·rintro m1 a1 w3 ⟨p7,gj,x,y,acc,mo,uk,vP,rfl,aY,S4,hrg,uy,Dv,hx,hs2,hy,hroom⟩
   clear S3
   refine bX aY (c:=Z3e) rfl ?_
   clear aY a1
   have hyk:okD d y:=by rw[hy];exact kN hx
   have hrl:mo.length=acc.length:=by rw[uy];simp[iL]
   have x5:=Dv x hx.1 hx.2
   refine U2 Z3f Z3g rfl rfl rfl ?_
   refine U2 Z3h Z3i rfl rfl rfl ?_
   refine U0 rfl ?_
   refine Ut (k:=0) (k':=1) rfl rfl rfl (Ub rfl rfl (U4 rfl rfl wU rfl (S4.ar (i:=6) rfl rfl)) ?_)
   refine Ut (k:=1) (k':=2) rfl rfl rfl (Ub rfl rfl (U8 (us:=[_,_]) rfl rfl aZ rfl cC (S4.aw (i:=1) rfl ⟨rfl,rfl,trivial⟩)) ?_)
   refine Ut (k:=2) (k':=3) rfl rfl rfl (Ub rfl rfl (yo (kc:=(fun x=>Value.agg (cu.f x).toArray)) (vc:=Value.bool) (es:=p7) (k:=y) (zv:=false) (i:=3) rfl rfl rfl wU IV Q0 S4 rfl) ?_)
   refine Ut (k:=3) (k':=4) rfl rfl rfl (Ub rfl rfl (dS rfl rfl) ?_)
   refine U5 rfl ?_
   refine bN [(1,_),(3,_),(4,_),(6,_),(7,_),(19,_)] ⟨rfl,rfl,rfl,rfl,rfl,rfl,trivial⟩ ?_
   refine U3 ?_
   refine dN Z3j Z3k rfl rfl rfl rfl (fun qK=>?_) (fun qK=>?_)
   ·simp only[Bool.and_eq_true,Bool.or_eq_true,Bool.and_eq_false_iff,Bool.or_eq_false_iff,decide_eq_true_eq,decide_eq_false_iff_not,Bool.not_eq_true',Bool.not_eq_false']at qK
    refine Ue rfl ?_
    refine bN [(1,_),(3,_),(4,_),(6,_),(7,_)] ⟨rfl,rfl,rfl,rfl,rfl,trivial⟩ ?_
    refine U3 ?_
    refine U2 Z3l Z3m rfl rfl rfl ?_
    refine Uc Z3n 3 rfl rfl rfl ?_
    refine U2 Z3o Z3p rfl rfl rfl ?_
    refine U0 rfl ?_
    refine Ut (k:=0) (k':=1) rfl rfl rfl (Ub rfl rfl (U4 rfl rfl wU rfl (S4.ar (i:=6) rfl rfl)) ?_)
    refine Ut (k:=1) (k':=2) rfl rfl rfl (Ub rfl rfl (U8 (us:=[_,_]) rfl rfl aZ rfl cC (S4.aw (i:=1) rfl ⟨rfl,rfl,trivial⟩)) ?_)
    refine Ut (k:=2) (k':=3) rfl rfl rfl (om (kc:=(fun x=>Value.agg (cu.f x).toArray)) (vc:=Value.bool) (es:=p7) (k:=y) (e:=true) (i:=3) (H':=[_,_,_,_,_,_,_,_]) (.inl rfl) rfl S4 rfl rfl rfl rfl wU IV rfl ?_)
    intro w4 S5;clear S4
    refine U5 rfl ?_
    refine bN [(1,_),(3,_),(4,_),(6,_),(7,_)] ⟨rfl,rfl,rfl,rfl,rfl,trivial⟩ ?_
    refine U3 ?_
    refine U0 rfl ?_
    refine Ut (k:=0) (k':=1) rfl rfl rfl (Ub rfl rfl (run_move rfl rfl) ?_)
    refine Ut (k:=1) (k':=2) rfl rfl rfl (Ub rfl rfl (U8 (us:=[_,_]) rfl rfl aZ rfl cC (S5.aw (i:=1) rfl ⟨rfl,rfl,trivial⟩)) ?_)
    refine Ut (k:=2) (k':=3) rfl rfl rfl (ij (C:=cu) (l:=[_,_]) rfl rfl rfl rfl iF rfl rfl rfl rfl S5 ?_)
    intro aQ w5 S6;clear S5
    refine Ut (k:=3) (k':=4) rfl rfl rfl (ji (C:=cu) (i:=1) (q:=0) (⟨y.a,y.b⟩:Da) rfl rfl rfl rfl rfl rfl rfl rfl iF S6 rfl rfl rfl (by show(_+1)*16<=_;first|omega|(simp only[ls];omega)) ?_)
    intro akI w6 S7;clear S6
    have S8:=S7.pick [1,2,3,4,5,6,7,8] [_,_,_,_,_,_,_,_] (by decide) ⟨rfl,rfl,rfl,rfl,rfl,rfl,rfl,rfl,trivial⟩;clear S7
    refine Ut (k:=4) (k':=5) rfl rfl rfl (Ub rfl rfl (run_assign rfl rfl) ?_)
    refine U5 rfl ?_
    refine bj ?_
    refine bN [(1,_),(3,_),(4,_),(6,_),(7,_)] ⟨rfl,rfl,rfl,rfl,rfl,trivial⟩ ?_
    refine U3 ?_
    refine U2 Z3q Z3r rfl rfl rfl ?_
    refine U2 Z3s Z3t rfl rfl rfl ?_
    refine U0 rfl ?_
    refine Ut (k:=0) (k':=1) rfl rfl rfl (Ub rfl rfl (U8 (us:=[_,_]) rfl rfl aZ rfl cC (S8.aw (i:=1) rfl ⟨rfl,rfl,trivial⟩)) ?_)
    refine U5 rfl ?_
    refine bN [(1,_),(3,_),(4,_),(6,_),(29,_)] ⟨rfl,rfl,rfl,rfl,rfl,trivial⟩ ?_
    refine U3 ?_
    refine U0 rfl ?_
    refine Ut (k:=0) (k':=1) rfl rfl rfl (Uh (l:=[_,_]) rfl rfl rfl nN rfl S8 ?_)
    intro bz w7 S9;clear S8
    refine Ut (k:=1) (k':=2) rfl rfl rfl (U6 (i:=0) (us:=[_,_]) (l':=[_,_]) (H':=[_,_,_,_,_,_,_,_,_]) rfl rfl S9 rfl rfl rfl rfl cC rfl rfl rfl rfl ?_)
    intro w8 bw;clear S9
    refine U5 rfl ?_
    refine bN [(1,_),(3,_),(4,_),(6,_),(7,_)] ⟨rfl,rfl,rfl,rfl,rfl,trivial⟩ ?_
    refine U3 ?_
    refine U0 rfl ?_
    refine Ut (k:=0) (k':=1) rfl rfl rfl (Ub rfl rfl (U4 rfl rfl dt rfl (bw.ar (i:=8) rfl rfl)) ?_)
    refine Ut (k:=1) (k':=2) rfl rfl rfl (Ub rfl rfl (U8 (us:=[_,_]) rfl rfl aZ rfl cC (bw.aw (i:=0) rfl ⟨rfl,rfl,trivial⟩)) ?_)
    refine Ut (k:=2) (k':=3) rfl rfl rfl (cS rfl rfl rfl rfl rfl rfl rfl anx bw (alK d y (bu.mono bw.Uy) (hsc.mono bw.Uy) (hsi.mono bw.Uy) (aK.mono bw.Uy) (by first|assumption|omega) hab (by first|assumption|omega) bw.aD) ?_)
    rintro _ w9 bW rfl;clear bw
    refine Ut (k:=3) (k':=4) rfl rfl rfl (U6 (i:=0) (us:=[_,_]) (l':=[_,_]) (H':=[_,_,_,_,_,_,_,_,_]) rfl rfl bW rfl rfl rfl rfl cC rfl rfl rfl rfl ?_)
    intro jT bV;clear bW
    refine U5 rfl ?_
    refine aO ?_
    have rC:ga gj x=false:=by rw[<-x5,<-hy];simpa using qK
    have Be:=nC (seen:=gj) (x:=x) (by omega) rC
    intro au aq
    refine⟨_,?dQ,⟨_,gj.set x true,cQ d x,jR d y,acc++[(x:Int)],_,_,_,rfl,aq.sub ⟨rfl,rfl,rfl,rfl,rfl,trivial⟩,bV.pick [1,0,3,4,5,6,7,8] [_,_,_,_,_,_,_,_] (by decide) ⟨rfl,rfl,rfl,rfl,rfl,rfl,rfl,rfl,trivial⟩,?cx,?dC,?lC,?uB,?amu,?amt,?ams⟩⟩
    case cx=>(rw[hrg];exact rG (by omega) rC)
    case dC=>(rw[aaZ,<-uy,hy])
    case lC=>(rw[hy];exact Dv.put (by omega))
    case uB=>exact wD hab hx
    case amu=>(rw[List.length_set];exact hs2)
    case amt=>(rw[hy,ug hab hx])
    case ams=>(simp only[List.length_append,List.length_cons,List.length_nil];omega)
    case dQ=>omega
   ·simp only[Bool.and_eq_true,Bool.or_eq_true,Bool.and_eq_false_iff,Bool.or_eq_false_iff,decide_eq_true_eq,decide_eq_false_iff_not,Bool.not_eq_true',Bool.not_eq_false']at qK
    refine bP rfl rfl ?_
    refine bN [(1,_),(3,_),(4,_),(6,_)] ⟨rfl,rfl,rfl,rfl,trivial⟩ ?_
    refine U3 ?_
    refine U0 rfl ?_
    refine Ut (k:=0) (k':=1) rfl rfl rfl (Ub rfl rfl (U4 rfl rfl mr rfl (S4.ar (i:=4) rfl rfl)) ?_)
    refine Ut (k:=1) (k':=2) rfl rfl rfl (Ub rfl rfl (run_move rfl rfl) ?_)
    obtain⟨M1,hle2,bZ,⟨A1,c1,e1,hr1⟩⟩:=S4.fZ (i:=0) (H':=[_,_,_,_,_,_,_,_]) rfl rfl (by show _*16<=_;first|omega|(simp only[ls];omega))
    clear S4;subst e1
    replace bu:=bu.mono (Hp.Ua hle2 bZ.mx)
    replace hsc:=hsc.mono (Hp.Ua hle2 bZ.mx)
    replace hsi:=hsi.mono (Hp.Ua hle2 bZ.mx)
    replace aK:=aK.mono (Hp.Ua hle2 bZ.mx)
    replace fJ:=fJ.mono hle2
    refine Ut (k:=2) (k':=3) rfl rfl rfl (ij (C:=(di 141)) (l:=[_]) rfl rfl rfl rfl kr rfl rfl rfl rfl bZ ?_)
    intro gZ kV bI;clear bZ
    refine Ut (k:=3) (k':=4) rfl rfl rfl (ji (C:=(di 141)) (i:=6) (q:=0) (⟨A1,mo.length,c1⟩:fO) rfl rfl rfl rfl rfl rfl rfl rfl kr bI rfl rfl rfl (by show(_+1)*24<=_;first|omega|(simp only[ls];omega)) ?_)
    intro awz lU bO;clear bI
    have cm:=bO.pick [1,2,3,4,5,6,7,8] [_,_,_,_,_,_,_,_] (by decide) ⟨rfl,rfl,rfl,rfl,rfl,rfl,rfl,rfl,trivial⟩;clear bO
    have hd1:=fJ.snoc (c:=c1) hr1
    refine Ut (k:=4) (k':=5) rfl rfl rfl (U6 (i:=4) (us:=[_]) (l':=[_]) (H':=[_,_,_,_,_,_,_,_]) rfl rfl cm rfl rfl rfl (cm.ke (i:=5) rfl) an5 rfl (dD (cm.one (i:=5) rfl) rfl) rfl rfl ?_)
    intro kz bF;clear cm
    refine U5 rfl ?_
    refine bj ?_
    refine aO ?_
    intro au aq
    exact⟨_,_,hle2,bF.pick [2,3,4,5,6,7] [_,_,_,_,_,_] (by decide) ⟨rfl,rfl,rfl,rfl,rfl,rfl,trivial⟩,_,_,_,gj,jb++[acc],rfl,by rw[List.map_append,show List.map iL [acc]=[mo]from by rw[uy];rfl];exact hd1,rJ hfn (by rw[<-pV (k+2) (by omega) (by omega)];exact iq) (hrg.trans (F3 (by rw[<-Dv x (by omega) (by omega),<-hy];simpa using qK))),Dv⟩
end InF
end Go.Proofs.YthppkofceancjaaGreat
