/- Part 2 of the proof of the law MovesRows: the walks through its functions and the plain laws that they need. -/
import Derived.Test.YthppkofceancjaaGreatMxZ1
import Derived.Test.YthppkofceancjaaGreatRows
import Derived.WalkKit
import Derived.ProofKit
import Derived.OpenShut
import Derived.SizedLaws
import Derived.Outline
import Derived.BigQuiet
import Derived.Deep.QuietTactic
import Derived.Deep.Draws
import Derived.IntWalk
import Derived.Lib.Hide
import Derived.Maps.AppendAt
import Derived.Deep.AppendLies
import Derived.Deep.DeepCutAuto
import Derived.Deep.CutBlock
import Derived.Deep.RegionWith
import Derived.Deep.RegionHeld3
import Derived.WalkSpells
import Derived.Laws.Cover3
set_option linter.unusedSimpArgs false
set_option linter.unusedVariables false
noncomputable section
namespace Go.Proofs.YthppkofceancjaaGreat
open Go.ChangeShapes Go.WideShapes Go.ChangeAt Go.RowKit
theorem uT0:type_of%Tryz.underlying0:=Tryz.underlying0
theorem av:type_of%Tryz.underlying3:=Tryz.underlying3
theorem dh:type_of%Tryz.underlying4:=Tryz.underlying4
theorem uT5:type_of%Tryz.underlying5:=Tryz.underlying5
theorem uT9:type_of%Tryz.underlying9:=Tryz.underlying9
theorem adf:type_of%Tryz.underlying20:=Tryz.underlying20
theorem bG:type_of%Tryz.underlying22:=Tryz.underlying22
theorem ay:type_of%Tryz.underlying24:=Tryz.underlying24
theorem aZ:type_of%Tryz.underlying26:=Tryz.underlying26
theorem aR:type_of%Tryz.underlying28:=Tryz.underlying28
theorem uX:type_of%Tryz.underlying29:=Tryz.underlying29
theorem qR:type_of%Tryz.underlying35:=Tryz.underlying35
theorem dD:type_of%Tryz.underlying53:=Tryz.underlying53
theorem iB:type_of%Tryz.underlying55:=Tryz.underlying55
theorem ade:type_of%Tryz.underlying58:=Tryz.underlying58
theorem sQ:type_of%Tryz.underlying59:=Tryz.underlying59
theorem Bp:type_of%Tryz.underlying62:=Tryz.underlying62
theorem cE:type_of%Tryz.underlying64:=Tryz.underlying64
theorem kY:type_of%Tryz.underlying65:=Tryz.underlying65
theorem cz:type_of%Tryz.underlying67:=Tryz.underlying67
theorem lT:type_of%Tryz.underlying68:=Tryz.underlying68
theorem cU:type_of%Tryz.underlying70:=Tryz.underlying70
theorem aT:type_of%Tryz.underlying77:=Tryz.underlying77
theorem adb:type_of%Tryz.underlying98:=Tryz.underlying98
theorem AQ:type_of%Tryz.underlying103:=Tryz.underlying103
theorem cN:type_of%Tryz.underlying120:=Tryz.underlying120
theorem eA:type_of%Tryz.underlying128:=Tryz.underlying128
theorem aj6:type_of%Tryz.underlying130:=Tryz.underlying130
theorem ig:type_of%Tryz.underlying141:=Tryz.underlying141
theorem iW:type_of%Tryz.underlying150:=Tryz.underlying150
theorem aj5:type_of%Tryz.underlying152:=Tryz.underlying152
theorem AP:type_of%Tryz.underlying180:=Tryz.underlying180
theorem aj4:type_of%Tryz.underlying185:=Tryz.underlying185
theorem ct:type_of%Tryz.underlying190:=Tryz.underlying190
theorem uP:type_of%Tryz.underlying192:=Tryz.underlying192
theorem sx:type_of%Tryz.underlying208:=Tryz.underlying208
theorem xB:type_of%Tryz.underlying215:=Tryz.underlying215
theorem Fz:type_of%Tryz.underlying222:=Tryz.underlying222
theorem aj3:type_of%Tryz.underlying236:=Tryz.underlying236
theorem aj2:type_of%Tryz.underlying237:=Tryz.underlying237
theorem aj1:type_of%Tryz.underlying241:=Tryz.underlying241
theorem aj0:type_of%Tryz.underlying244:=Tryz.underlying244
theorem ajZ:type_of%Tryz.underlying246:=Tryz.underlying246
theorem acu:type_of%Tryz.underlying249:=Tryz.underlying249
theorem xA:type_of%Tryz.underlying251:=Tryz.underlying251
theorem qF:type_of%Tryz.underlying252:=Tryz.underlying252
theorem ajY:type_of%Tryz.underlying265:=Tryz.underlying265
theorem ajX:type_of%Tryz.underlying276:=Tryz.underlying276
end Go.Proofs.YthppkofceancjaaGreat
namespace Go.Proofs.YthppkofceancjaaGreat
open Go.ChangeShapes Go.WideShapes Go.ChangeAt Go.RowKit
section
variable {P : Program} {n : Nat} {C : Ctx} {c : Code} {s : List K} {L : List (Nat × Value)} {w : World} {M : Hp} {X : Fr} {H : List Rs}
theorem U2(a b:Code)(hk:kind c=1)(ha:cL c=a)(hb:cR c=b)(h:WS P n C a (.thn b::s) L w):WS P n C c s L w:=by subst ha;subst hb;exact aiZ hk h
theorem Uc(a:Code)(i:Nat)(hk:kind c=3)(ha:cL c=a)(hi:qh c=i)(h:WS P n C a (.blk i::s) L w):WS P n C c s L w:=by subst ha;subst hi;exact ahc hk h
theorem cS(x y:Code){b:Bool}(hk:kind c=2)(hb:oev L (cX c)=some (.bool b))(hx:cL c=x)(hy:cR c=y)(ht:b=true->WS P n C x s L w)(hf:b=false->WS P n C y s L w):WS P n C c s L w:=by subst hx;subst hy;exact Ez hk hb ht hf
theorem fM(x:Code)(hk:kind c=2)(hb:oev L (cX c)=some (.bool true))(hx:cL c=x)(ht:WS P n C x s L w):WS P n C c s L w:=by subst hx;exact aha hk hb ht
theorem lK(y:Code)(hk:kind c=2)(hb:oev L (cX c)=some (.bool false))(hy:cR c=y)(hf:WS P n C y s L w):WS P n C c s L w:=by subst hy;exact ahb hk hb hf
theorem b7{a:Act}{c':Code}(ha:Env n L a)(hc:c'=c)(h:WS P n C c s L w):c'.wp P (post P C s) a w:=by subst hc;exact h a ha
theorem Uz(I:Nat->Act->World->Prop)(hk:kind c=4)(h0:∀a,Env n L a->∃k,I k a w)
  (round:∀k a w,I k a w->(cL c).wp P (post P C (.lp (fun a' w'=>∃k',k'<k/\I k' a' w')::s)) a w):WS P n C c s L w:=by
 intro a ha
 rw[aaP hk]
 have key:∀m k,k<m->∀a w,I k a w->Code.rounds P (cL c) (post P C s) m a w:=by
  intro m
  induction m with
  |zero=>intro k hk;omega
  |succ m ih=>
   intro k hk a w hi
   rw[rounds_succ]
   refine Code.wp_mono (fun e a w q=>?_) (round k a w hi)
   cases e with
   |normal=>
    obtain⟨k',hlt,hi'⟩:=q
    exact ih k' (by omega) a w hi'
   |_=>exact q
 obtain⟨k0,h1⟩:=h0 a ha
 exact wp_loop_rounds (k0+1) (key (k0+1) k0 (by omega) a w h1)
theorem mA(J:Act->World->Prop)(h1:WS P n C c (.lp J::s) L w)(h2:∀a w,J a w->post P C s .normal a w):WS P n C c s L w:=by
 intro a ha
 refine Code.wp_mono (fun e a w q=>?_) (h1 a ha)
 cases e with
 |normal=>exact h2 a w q
 |_=>exact q
theorem mG{a:Act}(ha:Env n L a)(h:NM P n C s L w):post P C s .normal a w:=h a ha
theorem U9{o:Oper}{x:Operand}{p:Addr}(ho:o.op=.nilCheck x)(hx:oev L x=some (.pointer (some p))):Run P o L w (.pointer (some p)) w:=by
 intro n c hc;unfold execOp;simp only[ho,hc.eval hx];rfl
theorem jy(t:Nat){v:Value}(v':Value)(hl:lk L t=some v)(e:v=v')(h:WS P n C c s ((t,v')::L) w):WS P n C c s L w:=by
 subst e
 exact fun a ha=>h a ⟨ha.sz,ha.df,fun u x hx=>by
  rw[oX]at hx
  split at hx
  ·rename_i e;subst e;injection hx with hx;subst hx;exact ha.at_ _ _ hl
  ·exact ha.at_ _ _ hx⟩
theorem b6{k:Nat}(t:Nat){v:Value}(v':Value)(hl:lk L t=some v)(e:v=v')(h:WL P n C c k s ((t,v')::L) w):WL P n C c k s L w:=by
 subst e
 exact fun a ha=>h a ⟨ha.sz,ha.df,fun u x hx=>by
  rw[oX]at hx
  split at hx
  ·rename_i e;subst e;injection hx with hx;subst hx;exact ha.at_ _ _ hl
  ·exact ha.at_ _ _ hx⟩
theorem wL{Mb:Hp}{Hb:List Rs}{f:Nat}{l:Array Bool}{t:Nat}{b:Bool}(hl:lk L t=some (.bool b))(ht:b=true->WA P n C c s X f l ((t,.bool true)::L) Mb Hb M H)(hf:b=false->WA P n C c s X f l ((t,.bool false)::L) Mb Hb M H):WA P n C c s X f l L Mb Hb M H:=by
 have key:∀b',b=b'->WA P n C c s X f l ((t,.bool b')::L) Mb Hb M H->WA P n C c s X f l L Mb Hb M H:=by
  intro b' e h hg a ha
  refine h hg a ⟨ha.sz,ha.df,fun u v hv=>?_⟩
  rw[oX]at hv
  split at hv
  ·rename_i e2;subst e2;injection hv with hv;subst hv;subst e;exact ha.at_ _ _ hl
  ·exact ha.at_ _ _ hv
 cases b
 ·exact key false rfl (hf rfl)
 ·exact key true rfl (ht rfl)
theorem jg{α:Type}{C:Cd α}{xs:List α}{o:Oper}{d g i q c:Nat}{t E:TypeId}{l:List Value}{Kt:List (Nat×Value)->World->Prop}(y:α){ca:Call}{ops:List Operand}{ts:List TypeId}{rv:Value}(hop:o.op=.call ca)(cm:ca.callee=.builtin .append)(hxs:ca.args=ops.toArray)(hts:ca.argTypes=ts.toArray)(hd:o.dst=some d)(hn:Nat.blt d n=true)
  (hx:oevs L ops=some [rv,.slice (some ⟨g,0,none⟩) 1 c])(ht:ts=[t,t])(hT:jI P t C)(S:SH w M X H)(hi:nth H i=some (Rs.row C rv xs))(hq:nth H q=some (Rs.box g E l))(hl:l=C.f y)(hr:(xs.length+1)*C.u8<=140737488355328)
  (h:∀v' w',SH w' M X (H.set i (Rs.row C v' (xs++[y])))->Kt ((d,v')::L) w'):WO P n o L w Kt:=by
 refine aaB (ys:=[y]) hop cm hxs hts hd hn hx ht hT S hi (.inr ⟨_,rfl,fun j u hu=>?_⟩) hr h
 rw[List.flatMap_cons,List.flatMap_nil,List.append_nil,<-hl]at hu
 have:=S.ar hq (o:=j) (u:=u) (by rw[dR];exact hu)
 unfold Addr.add
 split
 ·rename_i e;subst e;exact this
 ·simpa using this
end
theorem SH.one{α:Type}{D:Cd α}{v:Value}{xs:List α}{w:World}{M:Hp}{X:Fr}{H:List Rs}{i:Nat}(S:SH w M X H)(hi:nth H i=some (Rs.row D v xs)):v.oneCell'=true:=by
 obtain⟨A,c,rfl,_⟩:=S.sl hi
 rfl
theorem SH.jx{α:Type}{D:Cd α}{v:Value}{xs:List α}{w:World}{M:Hp}{X:Fr}{H:List Rs}{i:Nat}(S:SH w M X H)(hi:nth H i=some (Rs.row D v xs)):v.cells.toList=[v]:=by
 obtain⟨A,c,rfl,_⟩:=S.sl hi
 rfl
theorem Uy{u:Value}{us:List Value}(h:u.oneCell'=true)(hs:ones us=true):ones (u::us)=true:=by
 simp[ones,h,hs]
def Uv:Cd Int:=⟨fun x=>[.int .i64 x],1,8,3,0,fun _=>rfl,by intro x u hu;simp at hu;subst hu;rfl⟩
def gw:Cd Bool:=⟨fun x=>[.bool x],1,1,4,false,fun _=>rfl,by intro x u hu;simp at hu;subst hu;rfl⟩
theorem int_eq{a b:Int}(h:a=b):Value.int .i64 a=.int .i64 b:=by rw[h]
structure eT where
 A:Option Addr
 n:Nat
 c:Nat
instance :Inhabited eT:=⟨⟨none,0,0⟩⟩
def cB(E:TypeId):Cd eT:=⟨fun x=>[.slice x.A x.n x.c],1,24,E,⟨none,0,0⟩,fun _=>rfl,by intro x u hu;simp at hu;subst hu;rfl⟩
def ez{α:Type}(C:Cd α)(N:Hp)(vs:List eT)(xss:List (List α)):Prop:=
 vs.length=xss.length/\∀i,i<xss.length->(ga vs i).n=(ga xss i).length/\aF C N (ga vs i).A (ga vs i).c (ga xss i)
section
variable {α : Type} {C : Cd α} {N N' : Hp} {vs : List eT} {xss : List (List α)}
theorem ez.mono(h:ez C N vs xss)(k:N.le N'):ez C N' vs xss:=⟨h.1,fun i hi=>⟨(h.2 i hi).1,(h.2 i hi).2.mono k⟩⟩
theorem ez.dW:ez C N [] ([]:List (List α)):=⟨rfl,fun i hi=>by simp at hi⟩
theorem ez.snoc(h:ez C N vs xss){A:Option Addr}{xs:List α}{c:Nat}(hx:aF C N A c xs):ez C N (vs++[⟨A,xs.length,c⟩]) (xss++[xs]):=by
 refine⟨by simp[h.1],fun i hi=>?_⟩
 rw[List.length_append,List.length_singleton]at hi
 by_cases h1:i<xss.length
 ·rw[wB _ _ _ (by rw[h.1];exact h1),wB _ _ _ h1]
  exact h.2 i h1
 ·obtain rfl:i=xss.length:=by omega
  rw[DT _ _ _ (by rw[h.1];exact Nat.le_refl _),DT _ _ _ (Nat.le_refl _),h.1,Nat.sub_self]
  exact⟨rfl,hx⟩
end
end Go.Proofs.YthppkofceancjaaGreat
namespace Go.Proofs.YthppkofceancjaaGreat
section
variable {P : Program} {n : Nat} {C : Ctx} {c : Code} {s : List K} {L : List (Nat × Value)} {w : World} {Mb M : Hp} {X : Fr} {Hb H : List Rs} {l : Array Bool}
theorem Ue(x y:Code){p:Prop}[Decidable p](hk:kind c=2)(hb:oev L (cX c)=some (.bool (decide p)))(hx:cL c=x)(hy:cR c=y)(ht:p->WS P n C x s L w)(hf:¬p->WS P n C y s L w):WS P n C c s L w:=cS x y hk hb hx hy (fun h=>ht (of_decide_eq_true h)) (fun h=>hf (of_decide_eq_false h))
theorem Ut{k t:Nat}{p:Prop}[Decidable p](hl:lk L t=some (.bool (decide p)))(ht:p->WL P n C c k s ((t,.bool true)::L) w)(hf:¬p->WL P n C c k s ((t,.bool false)::L) w):WL P n C c k s L w:=mX hl (fun h=>ht (of_decide_eq_true h)) (fun h=>hf (of_decide_eq_false h))
theorem kj{f t:Nat}{p:Prop}[Decidable p](hl:lk L t=some (.bool (decide p)))(ht:p->WA P n C c s X f l ((t,.bool true)::L) Mb Hb M H)(hf:¬p->WA P n C c s X f l ((t,.bool false)::L) Mb Hb M H):WA P n C c s X f l L Mb Hb M H:=wL hl (fun h=>ht (of_decide_eq_true h)) (fun h=>hf (of_decide_eq_false h))
def FB(L:List (Nat×Value)):Op->Option Value
 |.move x=>oev L x
 |.assign x=>oev L x
 |.pick x a b=>match oev L x with
  |some (.bool true)=>oev L a
  |some (.bool false)=>oev L b
  |_=>none
 |_=>none
def stepG(c:Code)(n:Nat)(L:List (Nat×Value)):Option (Nat×Bool)->Option Bool
 |none=>some true
 |some (j,b)=>match op c j with
  |some o=>match o.dst with
   |some t=>match Nat.blt t n,lk L t with
    |true,some g=>some (isG g b)
    |_,_=>none
   |none=>none
  |none=>none
def FC(c:Code)(n k:Nat)(L:List (Nat×Value)):Option (List (Nat×Value)):=match op c k with
 |some o=>match o.dst with
  |some d=>match Nat.blt d n,stepG c n L o.guard with
   |true,some true=>match FB L o.op with
    |some v=>some ((d,v)::L)
    |none=>none
   |true,some false=>some ((d,undef)::L)
   |_,_=>none
  |none=>none
 |none=>none
theorem Ek{o:Oper}{y:Bool}(h:stepG c n L o.guard=some y):Wanted c L o.guard y/\jC c o n=true:=by
 unfold stepG at h
 unfold jC
 cases hg:o.guard with
 |none=>rw[hg]at h;injection h with h;exact⟨h.symm,rfl⟩
 |some p=>
  obtain⟨j,b⟩:=p
  rw[hg]at h
  simp only at h ⊢
  cases ho:op c j with
  |none=>rw[ho]at h;cases h
  |some o2=>
   rw[ho]at h
   simp only at h ⊢
   cases hd:o2.dst with
   |none=>rw[hd]at h;cases h
   |some t=>
    rw[hd]at h
    simp only at h ⊢
    split at h
    ·rename_i g h1 h2
     injection h with h
     exact⟨⟨o2,t,g,ho,hd,h2,h⟩,h1⟩
    ·cases h
theorem ahm{o:Oper}{v:Value}(h:FB L o.op=some v):Run P o L w v w:=by
 unfold FB at h
 split at h
 ·rename_i x e;exact run_move e h
 ·rename_i x e;exact run_assign e h
 ·rename_i x a b e
  split at h
  ·rename_i h1;exact fL e h1 h
  ·rename_i h1;exact iU e h1 h
  ·cases h
 ·cases h
theorem ah7{k:Nat}{L2:List (Nat×Value)}(h:FC c n k L=some L2)(hw:WL P n C c k.succ s L2 w):WL P n C c k s L w:=by
 unfold FC at h
 split at h
 ·rename_i o ho
  split at h
  ·rename_i d hd
   split at h
   ·rename_i h1 h2
    obtain⟨g1,g2⟩:=Ek h2
    split at h
    ·rename_i v hv
     injection h with h
     subst h
     exact ab6 ho rfl g1 g2 (Ub hd h1 (ahm hv) hw)
    ·cases h
   ·rename_i h1 h2
    obtain⟨g1,g2⟩:=Ek h2
    injection h with h
    subst h
    exact acs ho rfl g1 hd (by simp[h1,g2]) hw
   ·cases h
  ·cases h
 ·cases h
def Dl(c:Code)(k n:Nat)(L:List (Nat×Value)):Option (Oper×Nat):=match op c k with
 |some o=>match stepG c n L o.guard,o.dst with
  |some true,some d=>match Nat.blt d n with
   |true=>some (o,d)
   |false=>none
  |_,_=>none
 |none=>none
theorem acb{k d:Nat}{o:Oper}(h:Dl c k n L=some (o,d)):op c k=some o/\Wanted c L o.guard true/\o.dst=some d/\(Nat.blt d n&&jC c o n)=true:=by
 unfold Dl at h
 split at h
 ·rename_i o2 ho
  split at h
  ·rename_i d2 hg hd
   split at h
   ·rename_i hn
    simp only[Option.some.injEq,Prod.mk.injEq]at h
    obtain⟨rfl,rfl⟩:=h
    obtain⟨g1,g2⟩:=Ek hg
    exact⟨ho,g1,hd,by rw[hn,g2];rfl⟩
   ·cases h
  ·cases h
 ·cases h
theorem aj(i f:Nat){d:Nat}{o:Oper}{v:Value}(hx:Dl c i n L=some (o,d))(hb:(Region.noSelect (rg c)&&!uI (rg c) i&&Region.free .any (rg c) l i&&(Region.ready .any (rg c) l).contains i)=true)
  (hy:∀M2 N w,Mb.le M2->SH w M2 X (N++Hb)->(Run P o L w v w\/∃bU vs,(∀n a,Env n L a->(execOp a.eval o).run P w=.ok (.enter bU vs) w)/\Calls P bU vs w fun e w3=>e=.returned v/\SH w3 M2 X (N++Hb)))
  (h:WA P n C c s X f (l.setIfInBounds i true) ((d,v)::L) Mb Hb M H):WA P n C c s X (f+1) l L Mb Hb M H:=by
 obtain⟨h1,h2,h3,h4⟩:=acb hx
 simp only[Bool.and_eq_true]at hb
 exact rX f h1 (by rw[Bool.and_eq_true];exact⟨hb.1.1.1,hb.1.1.2⟩) hb.1.2 hb.2 h2 h3 h4 hy h
theorem ai(i f:Nat){d:Nat}{o:Oper}{v:Value}(hx:Dl c i n L=some (o,d))(hb:(Region.noSelect (rg c)&&Region.free .any (rg c) l i&&(Region.ready .any (rg c) l).contains i)=true)(hy:∀w,Run P o L w v w)
  (h:WA P n C c s X f (l.setIfInBounds i true) ((d,v)::L) Mb Hb M H):WA P n C c s X (f+1) l L Mb Hb M H:=by
 obtain⟨h1,h2,h3,h4⟩:=acb hx
 simp only[Bool.and_eq_true]at hb
 exact uA f h1 hb.1.1 hb.1.2 hb.2 h2 h3 h4 hy h
def opD(c:Code)(k n:Nat):Option (Oper×Nat):=match op c k with
 |some o=>match o.guard,o.dst with
  |none,some d=>match Nat.blt d n with
   |true=>some (o,d)
   |false=>none
  |_,_=>none
 |none=>none
theorem af(k:Nat){o:Oper}{d:Nat}{v:Value}{w':World}(h:opD c k n=some (o,d))(hr:Run P o L w v w')(hw:WL P n C c k.succ s ((d,v)::L) w'):WL P n C c k s L w:=by
 unfold opD at h
 split at h
 ·rename_i o2 ho
  split at h
  ·rename_i d2 hg hd
   split at h
   ·rename_i hn
    simp only[Option.some.injEq,Prod.mk.injEq]at h
    obtain⟨rfl,rfl⟩:=h
    exact Us ho rfl hg (Ub hd hn hr hw)
   ·cases h
  ·cases h
 ·cases h
def EL(c:Code)(n:Nat):Nat->Nat->List (Nat×Value)->Option (List (Nat×Value))
 |0,_,L=>some L
 |j+1,k,L=>match FC c n k L with
  |some L1=>EL c n j (k+1) L1
  |none=>none
theorem ag(k j:Nat){k':Nat}{L2:List (Nat×Value)}(hk:k'=k+j)(h:EL c n j k L=some L2)(hw:WL P n C c k' s L2 w):WL P n C c k s L w:=by
 subst hk
 induction j generalizing k L with
 |zero=>injection h with h;subst h;exact hw
 |succ j ih=>
  unfold EL at h
  split at h
  ·rename_i L1 h1
   refine ah7 h1 (ih (k+1) h ?_)
   rw[show k+1+j=k+(j+1)from by omega]
   exact hw
  ·cases h
end
end Go.Proofs.YthppkofceancjaaGreat
namespace Go.Proofs.YthppkofceancjaaGreat
open Go.ChangeShapes Go.WideShapes Go.ChangeAt Go.RowKit
theorem afY{H:Type}{enc:TypeId×Value->H}{P:Program}(hl:laidOutB P=true){W W':World}(hb:Below W.heap.size W W'):
  ∀(ts:List TypeId) (vs:List Value) (ds:List (DataW H)) (ps:List MemPlace),(∀t∈ts,P.readableRec t=true/\t<P.types.size)->
   DataW.TrodAll enc P W 0 (fun _=>true) true ts vs ds ps->(∀x∈ps,x.block<W.heap.size)->
   DataW.TrodAll enc P W' 0 (fun b=>decide (b<W.heap.size)) true ts vs ds ps:=by
 intro ts
 induction ts with
 |nil=>intro vs ds ps _ h _;cases vs<;>cases ds<;>exact h
 |cons t ts ih=>
  intro vs ds ps ht h hlt
  cases vs with
  |nil=>exact h.elim
  |cons v vs=>
   cases ds with
   |nil=>exact h.elim
   |cons d ds=>
    obtain⟨p,q,h1,h2,rfl⟩:=h
    have ht0:=ht t (by simp)
    exact⟨p,q,Below.trod hl ht0.1 ht0.2 h1 hb (fun x hx=>hlt x (by simp[hx])),
     ih vs ds q (fun t' ht'=>ht t' (by simp[ht'])) h2 (fun x hx=>hlt x (by simp[hx])),rfl⟩
theorem DX{H:Type}{enc:TypeId×Value->H}{P:Program}{W:World}{base:Nat}{spare:Nat->Bool}{held:Bool}:
  ∀(ts:List TypeId) (vs:List Value) (ds:List (DataW H)) (ps:List MemPlace),DataW.TrodAll enc P W base spare held ts vs ds ps->ds.length=ts.length:=by
 intro ts
 induction ts with
 |nil=>intro vs ds ps h;cases vs<;>cases ds<;>first|rfl|exact h.elim
 |cons t ts ih=>
  intro vs ds ps h
  cases vs with
  |nil=>exact h.elim
  |cons v vs=>
   cases ds with
   |nil=>exact h.elim
   |cons d ds=>
    obtain⟨p,q,_,h2,rfl⟩:=h
    simp[ih vs ds q h2]
theorem ahE{H:Type}{enc:TypeId×Value->H}{C:Checked}{os:Os}{f:FuncId}{fn:Func}{s:ChangeSpec}{tb:TypeId}
  (own:ownKnob C.prog.godebug=none)(started:os.Started)(noInit:C.prog.inits.idxOf? f=none)(hfn:C.prog.funcs[f]? =some fn)
  (witness:∃(w:World) (tape:Tape) (i:Input),w.os=os/\(w.forCall tape i).Shaped C.prog/\i.vars=[]/\Input.okWide C.prog (w.forCall tape i) .any w.heap.size f i/\
   s.pre6 enc C.prog fn [] false (w.forCall tape i).memory i.args/\({}:Assume).holds C.prog (lone (Frame.enter C.prog f i.args .normal) [] (w.forCall tape i)))
  (hvars:s.vars=[])(hl:laidOutB C.prog=true)(hps:(fn.params.toList.all fun t=>C.prog.readableRec t&&decide (t<C.prog.types.size))=true)
  (hres:fn.resultTypes=#[tb])(htb:C.prog.underlying tb=some .bool)
  (FK:∀ds:List (DataW H),ds.length=fn.params.toList.length->s.fn H (ds++[])={results:=[.lit (.bool true)],args:=ds})
  (amI:∀(W:World) (base:Nat) (args:Array Value) (ds:List (DataW H)) (p:List MemPlace),
   (∀(j:Nat) t v,fn.params[j]? =some t->args[j]? =some v->Value.okWide C.prog W .any base t v)->
   DataW.TrodAll enc C.prog W 0 (fun _=>true) true fn.params.toList args.toList ds p->W.noneFrozen p->(∀x∈p,x.block<W.heap.size)->
   (DataW.weightsEach C.prog fn.params.toList ds).all (·<=reachBytes)=true->
   Calls C.prog f args W fun e W'=>e=.returned (.bool true)/\Below W.heap.size W W'):
  ReturnsInHanded {} C os f .any (s.pre6 enc C.prog fn [] false) (s.post enc C.prog fn false true false false):=by
 refine returnsInHanded_of_change_sized (conds:=[]) own started noInit hfn witness ?_
 intro W base args ds gs before hval hW _ hsz _
 have hW':=hW
 obtain⟨p,q,hA,hV,rfl,hfz,_⟩:=hW
 rw[hvars]at hV
 have vS:gs=[]/\q=[]:=by cases gs with
  |nil=>exact⟨rfl,hV⟩
  |cons g gs=>exact hV.elim
 obtain⟨rfl,rfl⟩:=vS
 have hvt:s.plain.varTypes C.prog=[]:=by simp[DataSpec.varTypes,ChangeSpec.plain,hvars]
 rw[hvt,List.append_nil,List.append_nil]at hsz
 have hlt:∀x∈p,x.block<W.heap.size:=fun x hx=>hW'.lt x (by simp[hx])
 refine(amI W base args ds p hval hA (fun b off hm=>hfz b off (by simp[hm])) hlt hsz).mono ?_
 rintro e W' ⟨rfl,hb⟩
 have amu:∀t∈fn.params.toList,C.prog.readableRec t=true/\t<C.prog.types.size:=by
  intro t ht
  have:=List.all_eq_true.1 hps t ht
  simpa using this
 refine⟨_,rfl,ds,[],_,[],p,[],hW',?_,?_,?_,hb.frame _,fun h=>by cases h⟩
 ·rw[FK ds (DX _ _ _ _ hA),hres]
  exact trodAll_mk1 (shut_bool htb true)
 ·rw[FK ds (DX _ _ _ _ hA)]
  exact afY hl hb _ _ _ _ amu hA hlt
 ·rw[FK ds (DX _ _ _ _ hA),hvars]
  rfl
end Go.Proofs.YthppkofceancjaaGreat
namespace Go.Proofs.YthppkofceancjaaGreat
open Go.ChangeShapes Go.WideShapes Go.ChangeAt Go.RowKit
section
variable {P : Program} {o : Oper} {L : List (Nat × Value)} {w w' : World} {x y z : Operand} {t t' T E : TypeId} {a b : Int} {v u : Value} {n d : Nat} {M M' : Hp} {X : Fr} {H H' : List Rs} {i g off : Nat} {l : List Value}
theorem Uo{P:Program}{f:FuncId}{fn:Func}{c:Code}(hf:P.funcs[f]? =some fn)(hname:(fn.name== "runtime.NumGoroutine")=false)(hb:fn.body=some c)(args:Array Value)(w:World):(callFunc f args).run P w=.ok (.enter f args) w:=by
 have h1:fn.name≠ "runtime.NumGoroutine":=by simpa using hname
 simp[callFunc,hf,h1,hb]
def plOk(k:Nat):Nat->List (Nat×Nat)->Bool
 |_,[]=>true
 |i,(p,q)::r=>Nat.beq p (i*k)&&Nat.beq q k&&plOk k (i+1) r
theorem D9{k:Nat}:∀{pl:List (Nat×Nat)}{j:Nat},plOk k j pl=true->∀i p,nth pl i=some p->p=((j+i)*k,k)
 |[],_,_,i,p,h=>by simp[nth]at h
 |(a,b)::r,j,hp,0,p,h=>by
  simp only[plOk,Bool.and_eq_true]at hp
  simp only[nth,Option.some.injEq]at h
  rw[<-h,Nat.eq_of_beq_eq_true hp.1.1,Nat.eq_of_beq_eq_true hp.1.2,Nat.add_zero]
 |(a,b)::r,j,hp,i+1,p,h=>by
  simp only[plOk,Bool.and_eq_true]at hp
  simp only[nth]at h
  rw[D9 hp.2 i p h,show j+1+i=j+(i+1) by omega]
theorem Ev{pl:List (Nat×Nat)}{place:Nat->Option (Nat×Nat)}(hpl:∀i p,nth pl i=some p->place i=some p):∀(ps:List (Nat×Value)) (cs:Array Value) (out:List Value),fillL pl cs.toList ps=some out->Instr.fill place cs ps=some out.toArray
 |[],cs,out,h=>by
  simp only[fillL,Option.some.injEq]at h
  subst h
  simp[Instr.fill]
 |(i,v)::r,cs,out,h=>by
  unfold fillL at h
  unfold Instr.fill
  split at h
  ·cases h
  ·rename_i p hp
   simp only[hpl i p hp]
   split at h
   ·rename_i hc
    simp only[Bool.and_eq_true]at hc
    have h1:v.cells.size=p.2:=by have:=Nat.eq_of_beq_eq_true hc.1;simpa using this
    have h2:p.1+p.2<=cs.size:=by have:=Nat.le_of_ble_eq_true hc.2;simpa using this
    obtain⟨po,ps⟩:=p
    simp only at h1 h2 h ⊢
    rw[if_neg (by simp[h1];omega)]
    refine Ev hpl r _ out ?_
    rw[<-Array.foldl_toList,Array.toList_zipIdx,foldl_set,Nat.add_zero]
    exact h
   ·cases h
theorem jf{pl:List (Nat×Nat)}{zl:List Value}{ps:List (Nat×Operand)}{vs:List (Nat×Value)}{pa:Array (Nat×Operand)}{len k:Nat}(hop:o.op=.build T pa)(tX:pa=ps.toArray)(hu:P.underlying T=some (.array len E))(hz:(P.info? T).map (·.zero)=some (some (.agg zl.toArray)))
  (hk:(P.info? E).map (·.size)=some k)(hpl:plOk k 0 pl=true)(hps:partL L ps=some vs)(hl:fillL pl zl vs=some l):Run P o L w (.agg l.toArray) w:=by
 intro n c he
 subst tX
 unfold execOp
 have e:=Ab he hps
 have hf:=Ev (pl:=pl) (place:=fun i=>some (i*k,k)) (fun i p hp=>by rw[D9 hpl i p hp,Nat.zero_add]) vs zl.toArray l (by simpa using hl)
 simp only[hop,Instr.build,wM hz,run_underlying hu,run_sizeOf hk,Sem.run_bind,Sem.run_pure,Result.andThen_ok,List.map_toArray,e]
 rw[show Value.cells (.agg zl.toArray)=zl.toArray from rfl,hf]
 rfl
theorem ajd(xs:List Int)(e:Nat)(h:e<xs.length):nth (xs.map (Value.int .i64)) e=some (.int .i64 (ga xs e)):=by
 rw[dR,List.getElem?_map,abT h];rfl
theorem wy{cs:List Value}{e len:Nat}{dd:TypeDesc}(hop:o.op=.index T x y)(hx:oev L x=some (.agg cs.toArray))(hy:oev L y=some (.int .i64 a))(hu:P.underlying T=some (.array len E))(hE:P.underlying E=some dd)(hf:pg dd=true)(hk:(P.info? E).map (·.size)=some 1)
  (ha:a=(e:Int))(he:e<len)(hv:nth cs e=some v):Run P o L w v w:=by
 intro n c hc
 unfold execOp
 rw[dR]at hv
 have hv':cs.toArray[e]? =some v:=by simpa using hv
 have h1:(0:Int)<=(e:Int)/\(e:Int)<(len:Int):=by omega
 simp only[hop,hc.eval hx,hc.eval hy,Instr.index,asIntOf,Sem.run_bind,Sem.run_pure,Result.andThen_ok,run_underlying hu,ha,h1,and_self,if_true,run_sizeOf hk,Int.toNat_natCast,part,wk hE,hf,Bool.not_true,Bool.false_eq_true,if_false,Nat.mul_one,hv']
theorem gJ{bo:Nat}{e k len:Nat}(hop:o.op=.indexAddr T x y)(hx:oev L x=some (.pointer (some ⟨g,bo,none⟩)))(hy:oev L y=some (.int .i64 a))(hu:P.underlying T=some (.array len E))(hk:(P.info? E).map (·.size)=some k)
  (ha:a=(e:Int))(he:e<len):Run P o L w (.pointer (some ⟨g,bo+e*k,none⟩)) w:=by
 intro n c he'
 unfold execOp
 have h1:(0:Int)<=(e:Int)/\(e:Int)<(len:Int):=by omega
 simp only[hop,he'.eval hx,he'.eval hy,Instr.indexAt,asIntOf,Instr.sureAddr,Sem.run_bind,Sem.run_pure,Result.andThen_ok,run_underlying hu,ha,h1,and_self,if_true,run_sizeOf hk,Int.toNat_natCast,abr]
end
def X0(W:World):Fr:=⟨fun _=>none,W⟩
theorem SH.start(W:World):SH W (hp W) (X0 W) []:=
 ⟨Hp.le_refl _,(fun b o e=>by cases e),(fun b o e=>by cases e),(fun s hs=>by cases hs),(fun s hs=>by cases hs),(fun i j r s _ hr=>by simp at hr),gj.refl W⟩
theorem SH.below{W w:World}{M:Hp}(h:(hp W).le M)(S:SH w M (X0 W) []):Below W.heap.size W w:=by
 refine⟨S.like.os,S.like.tape,S.like.output,S.like.size,fun k hk=>?_⟩
 have e:hp W k=some W.heap[k]:=Array.getElem?_eq_getElem hk
 have:=S.m k _ (h k _ e)
 unfold hp at this e
 rw[this,e]
theorem agY{P:Program}{f:FuncId}{vs:List Value}{W:World}(h:Ct P f vs W (hp W) (X0 W) (fun u _=>u=.bool true)):Calls P f vs.toArray W fun e W'=>e=.returned (.bool true)/\Below W.heap.size W W':=by
 refine h.mono ?_
 rintro e w' ⟨u,rfl,M',hle,S,rfl⟩
 exact⟨rfl,S.below hle⟩
end Go.Proofs.YthppkofceancjaaGreat
namespace Go.Proofs.YthppkofceancjaaGreat
open Go.ChangeShapes Go.WideShapes Go.ChangeAt Go.RowKit
def Kp(w w':World):Prop:=Below w.heap.size w w'
theorem Kp.refl(w:World):Kp w w:=Below.refl _ _
theorem Kp.trans{a b c:World}(h:Kp a b)(k:Kp b c):Kp a c:=Below.trans h (Below.mono k (Below.size h))
theorem Kp.size{a b:World}(h:Kp a b):a.heap.size<=b.heap.size:=Below.size h
theorem Kp.below{a b:World}(h:Kp a b):Below a.heap.size a b:=h
theorem below_drewN{B:Nat}{a w:World}(h:Below B a w)(n:Nat):Below B a (w.drewN n):=h.trans ⟨rfl,rfl,rfl,Nat.le_refl _,fun _ _=>rfl⟩
theorem Kp.drewN{a w:World}(h:Kp a w)(n:Nat):Kp a (w.drewN n):=below_drewN h n
theorem Kp.drew{a w:World}(h:Kp a w):Kp a w.drew:=Below.drew h
theorem Kp.alloc{a w:World}(h:Kp a w)(o:Obj):Kp a (w.alloc o):=Below.alloc h (Below.size h) o
theorem Kp.setCell{a w:World}(h:Kp a w){p:Addr}(hp:a.heap.size<=p.block)(u:Value):Kp a (w.setCell p u):=Below.setCell h hp u
theorem Kp.grown{a w w':World}{row:Option Nat}(h:Kp a w)(hg:w.grownBy w' row)(hr:∀k,row=some k->a.heap.size<=k):Kp a w':=Below.grown h hg (Below.size h) hr
def Sl(w:World)(B k u8:Nat)(A:Option Addr)(n:Nat)(xs:List Value):Prop:=
 xs.length=n*k/\n*u8<=140737488355328/\(0<n->∃b off,A=some ⟨b,off,none⟩/\b<B/\∀j u,xs[j]? =some u->w.cell? ⟨b,off+j,none⟩=some u)
section
variable {w w' : World} {B B' k u8 n : Nat} {A : Option Addr} {xs : List Value}
theorem Sl.len(h:Sl w B k u8 A n xs):xs.length=n*k:=h.1
theorem Sl.dW:Sl w B k u8 A 0 []:=⟨by simp,by simp,fun h=>absurd h (by omega)⟩
theorem Sl.at_(h:Sl w B k u8 A n xs)(hn:0<n):∃b off,A=some ⟨b,off,none⟩/\b<B/\∀j u,xs[j]? =some u->w.cell? ⟨b,off+j,none⟩=some u:=h.2.2 hn
theorem Sl.keep(h:Sl w B k u8 A n xs)(hk:∀p:Addr,p.block<B->w'.cell? p=w.cell? p):Sl w' B k u8 A n xs:=
 ⟨h.1,h.2.1,fun hn=>by
  obtain⟨b,off,e,hb,hc⟩:=h.2.2 hn
  exact⟨b,off,e,hb,fun j u hu=>(hk _ hb).trans (hc j u hu)⟩⟩
theorem Sl.mono(h:Sl w B k u8 A n xs)(hB:B<=B'):Sl w B' k u8 A n xs:=
 ⟨h.1,h.2.1,fun hn=>by
  obtain⟨b,off,e,hb,hc⟩:=h.2.2 hn
  exact⟨b,off,e,by omega,hc⟩⟩
theorem Sl.below(h:Sl w B k u8 A n xs)(hb:Below B w w'):Sl w' B k u8 A n xs:=h.keep fun _ hp=>hb.cell hp
theorem Sl.ES{base:Nat}{e:TypeId}{c:Nat}(h:w.ownsRow base e k (.slice A n c) n xs)(hr:n*u8<=140737488355328):Sl w w.heap.size k u8 A n xs:=by
 refine⟨h.1,hr,fun hn=>?_⟩
 rcases h.2 with⟨_,h0⟩|⟨g,cap,cur,hv,_,hh,_⟩
 ·omega
 ·injection hv with hA
  subst hA
  have hlt:=(h.lt g rfl).2
  refine⟨g,0,rfl,hlt,fun j u hu=>?_⟩
  have:=h.cells (g:=g) rfl j u hu
  rwa [Addr.add_lit]at this
end
def gi(xs:List Int)(i:Nat):Int:=xs.getD i 0
theorem F5{xs:List Int}{i:Nat}(h:i<xs.length):gi xs i=xs[i]:=by simp[gi,h]
theorem abS{xs:List Int}{i:Nat}(h:i<xs.length):xs[i]? =some (gi xs i):=by simp[gi,h]
def iv(x:Int):Value:=.int .i64 x
def pj(w:World)(B:Nat)(A:Option Addr)(xs:List Int):Prop:=Sl w B 1 8 A xs.length (xs.map iv)
def Ints(w:World)(B:Nat)(v:Value)(xs:List Int):Prop:=∃A c,v=.slice A xs.length c/\xs.length<=c/\pj w B A xs
section
variable {w w' : World} {B B' : Nat} {A : Option Addr} {v : Value} {xs : List Int}
theorem pj.below(h:pj w B A xs)(hb:Below B w w'):pj w' B A xs:=Sl.below h hb
theorem pj.at_(h:pj w B A xs){i:Nat}(hi:i<xs.length):∃b off,A=some ⟨b,off,none⟩/\b<B/\w.cell? ⟨b,off+i,none⟩=some (.int .i64 (gi xs i)):=by
 obtain⟨b,off,e,hb,hc⟩:=Sl.at_ h (by omega)
 exact⟨b,off,e,hb,hc i _ (by rw[List.getElem?_map,abS hi];rfl)⟩
theorem pj.dW:pj w B A []:=Sl.dW
theorem Ints.below(h:Ints w B v xs)(hb:Below B w w'):Ints w' B v xs:=by
 obtain⟨A,c,e,hc,h⟩:=h
 exact⟨A,c,e,hc,h.below hb⟩
theorem Ints.ES{base:Nat}{e:TypeId}(h:w.ownsRow base e 1 v xs.length (xs.map iv))(hr:xs.length*8<=140737488355328):Ints w w.heap.size v xs:=by
 have h':=h
 rcases h.2 with⟨rfl,h0⟩|⟨g,cap,cur,rfl,_,_,hle,_⟩
 ·refine⟨none,0,by rw[h0],by omega,?_⟩
  unfold pj
  rw[h0]
  obtain rfl:xs=[]:=List.eq_nil_of_length_eq_zero h0
  exact Sl.dW
 ·exact⟨_,cap,rfl,hle,Sl.ES h' hr⟩
end
section
variable {H : Type} {enc : TypeId × Value → H} {P : Program} {w : World}
end
def zF(P:Program)(T E:TypeId)(k u8:Nat)(z:Value):Prop:=
 P.underlying T=some (.slice E)/\(P.info? E).map (fun i=>(i.zero,i.size,i.bytes))=some (some z,k,u8)/\z.cells.size=k/\0<k/\0<u8
abbrev Gr(w w':World)(row:Option Nat):Prop:=w.grownBy w' row
theorem EG(w:World)(row:Option Nat):Gr w w row:=⟨rfl,rfl,rfl,Nat.le_refl _,fun _ _ _=>rfl⟩
theorem ahH{a b:World}(h:Kp a b)(row:Option Nat):Gr a b row:=⟨h.os,h.tape,h.output,h.size,fun i hi _=>h.block i hi⟩
theorem aca{w w':World}{base:Nat}{e:TypeId}{k n:Nat}{v:Value}{xs:List Value}(h:w.ownsRow base e k v n xs)(hk:Kp w w'):w'.ownsRow base e k v n xs:=
 h.kept (ahH hk none) (by cases hb:v.ownBlock<;>simp)
theorem agi{n u8:Nat}(h0:0<u8)(h:n*u8<=140737488355328):n<=maxLen:=by
 have:n*1<=n*u8:=Nat.mul_le_mul_left n h0
 unfold maxLen
 omega
theorem af8{P:Program}{w:World}{ops:Array Oper}{rest:List Oper}{o:Oper}{a:Act}{Q:Exit->Act->World->Prop}{T E:TypeId}{k u8:Nat}{z:Value}(hT:zF P T E k u8 z)
  (hgd:o.guard=none)(s x:Operand)(ho:o.op=.call {callee:=.builtin .append,args:=#[s,x],argTypes:=#[T,T]})
  {base:Nat}{v:Value}{n:Nat}{xs:List Value}(hown:w.ownsRow base E k v n xs)(hs:a.eval s=v){B:Nat}{A:Option Addr}{m c:Nat}{news:List Value}(hx:a.eval x=.slice A m c)
  (hsl:Sl w B k u8 A m news)(h1:∀u∈news,u.oneCell'=true)(hr:(n+m)*u8<=140737488355328)(hbase:base<=w.heap.size)
  (h:∀v' w',w'.ownsRow base E k v' (n+m) (xs++news)->Gr w w' v.ownBlock->(v'.ownBlock=v.ownBlock\/v'.ownBlock=some w.heap.size)->wpList P ops Q rest (a.put o.dst v') w'):
  wpList P ops Q (o::rest) a w:=by
 obtain⟨ht,hinfo,hzs,hsz,h8⟩:=hT
 obtain⟨i,hi,hz,hsize,hby⟩:=info_parts hinfo
 have key:∃v' w',(Builtin.append_ #[T,T] o.type #[v,.slice A m c]).run P w=.ok v' w'/\w'.ownsRow base E k v' (n+m) (xs++news)/\Gr w w' v.ownBlock/\(v'.ownBlock=v.ownBlock\/v'.ownBlock=some w.heap.size):=by
  rcases A with _|ad
  ·have hm:m=0:=by
    rcases Nat.eq_zero_or_pos m with h0|h0
    ·exact h0
    ·obtain⟨b,off,h,_⟩:=hsl.at_ h0
     cases h
   subst hm
   have hn:news=[]:=List.eq_nil_of_length_eq_zero (by simpa using hsl.len)
   subst hn
   refine⟨v,w,?_,by simpa using hown,EG _ _,.inl rfl⟩
   rcases hown.2 with⟨rfl,rfl⟩|⟨g,cap,cur,rfl,_,_,hnc,_⟩
   ·simp[Builtin.append_,run_underlying ht,sizeOf,typeInfo,hi,Builtin.lenOf,Builtin.firstCells]
   ·simp[Builtin.append_,run_underlying ht,sizeOf,typeInfo,hi,Builtin.lenOf,Builtin.firstCells,hnc,storeCells]
  ·have hcells:∀j u,news[j]? =some u->w.cell? (ad.add j)=some u:=by
    intro j u hu
    rcases Nat.eq_zero_or_pos m with h0|h0
    ·subst h0
     have hn:news=[]:=List.eq_nil_of_length_eq_zero (by simpa using hsl.len)
     subst hn
     simp at hu
    ·obtain⟨b,off,h,_,hc⟩:=hsl.at_ h0
     injection h with h
     subst h
     rw[Addr.add_lit]
     exact hc j u hu
   obtain⟨v',w',hrun,r1,r2,_,r3⟩:=run_append_own_at (P:=P) w base T o.type E i z k u8 ht hi hz hsize hby hzs hsz v n xs hown ad m c news hsl.len hcells h1 (agi h8 hr) hr hbase
   exact⟨v',w',hrun,r1,r2,r3⟩
 obtain⟨v',w',hrun,r1,r2,r3⟩:=key
 refine wpList_plain hgd fun _ hK=>?_
 unfold Oper.wp execOp
 simp only[ho,resolve,invoke,builtin,Sem.run_bind,Sem.run_pure,Result.andThen_ok,List.map_toArray,List.map_cons,List.map_nil,hs,hx,hrun]
 exact hK _ _ (h v' w' r1 r2 r3)
theorem abH(w:World)(base:Nat)(e:TypeId)(k:Nat):w.ownsRow base e k (.slice none 0 0) 0 []:=World.ownsRow_nil w base e k
def ei(w:World)(base:Nat)(v:Value)(xs:List Int):Prop:=w.ownsRow base 3 1 v xs.length (xs.map iv)
section
variable {w w' : World} {base : Nat} {v : Value} {xs : List Int} {g cap : Nat}
theorem ei.dW:ei w base (.slice none 0 0) []:=abH w base _ 1
theorem ei.form(h:ei w base v xs)(h0:0<xs.length):∃g cap,v=.slice (some ⟨g,0,none⟩) xs.length cap/\base<=g/\g<w.heap.size/\xs.length<=cap:=by
 have h':=h
 rcases h.2 with⟨_,h1⟩|⟨g,cap,cur,rfl,hg,_,hle,_⟩
 ·omega
 ·exact⟨g,cap,rfl,hg,(h'.lt g rfl).2,hle⟩
theorem ei.qU{A:Option Addr}{n:Nat}(h:ei w base (.slice A n cap) xs):n=xs.length:=by
 rcases h.2 with⟨h1,h2⟩|⟨g,c,cur,h1,_⟩
 ·injection h1 with _ h3;omega
 ·injection h1
theorem ei.cell{n:Nat}(h:ei w base (.slice (some ⟨g,0,none⟩) n cap) xs){i:Nat}(hi:i<xs.length):w.cell? ⟨g,i,none⟩=some (.int .i64 (gi xs i)):=by
 obtain rfl:=h.qU
 rw[World.ownsRow.cellAt h i (by omega),List.getElem?_map,abS hi];rfl
theorem ei.free{n:Nat}(h:ei w base (.slice (some ⟨g,0,none⟩) n cap) xs)(i:Nat):w.frozen? ⟨g,i,none⟩=false:=by
 obtain rfl:=h.qU
 exact World.ownsRow.frozenAt h i
theorem ei.adh{n:Nat}(h:ei w base (.slice (some ⟨g,0,none⟩) n cap) xs)(i:Nat)(y:Int):
  ei (w.setCell ⟨g,i,none⟩ (.int .i64 y)) base (.slice (some ⟨g,0,none⟩) n cap) (xs.set i y):=by
 obtain rfl:=h.qU
 unfold ei
 rw[List.length_set,List.map_set]
 exact(World.ownsRow.stored h i (iv y)).1
theorem ei.kp(h:ei w base v xs)(hk:Kp w w'):ei w' base v xs:=aca h hk
theorem ei.lt(h:ei w base v xs):∀k,v.ownBlock=some k->base<=k/\k<w.heap.size:=World.ownsRow.lt h
end
theorem aka:zF Tryz.prog 53 3 1 8 (.int .i64 0):=⟨dD,by kernel_rfl,rfl,by omega,by omega⟩
theorem ajx(xs:List Int)(i j:Nat)(y:Int)(h:i<xs.length):gi (xs.set i y) j=if i=j then y else gi xs j:=by
 unfold gi
 rw[List.getD_eq_getElem?_getD,List.getD_eq_getElem?_getD,List.getElem?_set]
 by_cases hij:i=j
 ·subst hij;simp[h]
 ·simp[hij]
theorem aci{xs ys:List Int}(hl:xs.length=ys.length)(h:∀i,i<xs.length->gi xs i=gi ys i):xs=ys:=by
 apply List.ext_getElem hl
 intro i h1 h2
 have:=h i h1
 rwa [F5 h1,F5 h2]at this
theorem D7{a b:World}{g:Nat}(h:Gr a b (some g))(i:Nat)(u:Value):Gr a (b.setCell ⟨g,i,none⟩ u) (some g):=
 ⟨h.os,h.tape,h.output,by simpa[World.setCell]using h.size,fun k hk hn=>(Below.heap_setCell b ⟨g,i,none⟩ u k (fun e=>hn (by rw[e]))).trans (h.block k hk hn)⟩
theorem Kp.own{a b c:World}{base:Nat}{e:TypeId}{k n:Nat}{v:Value}{xs:List Value}(h:Kp a b)(ho:b.ownsRow base e k v n xs)(hg:Gr b c v.ownBlock)(hb:a.heap.size<=base):Kp a c:=
 h.grown hg fun g hg'=>Nat.le_trans hb (ho.lt g hg').1
theorem aiI{w:World}{g i:Nat}{u:Value}(h:w.cell? ⟨g,i,none⟩=some u):g<w.heap.size:=World.block_lt_of_cell? w ⟨g,i,none⟩ h
theorem Kp.c{a b:World}(h:Kp a b){g i:Nat}{u:Value}(hc:a.cell? ⟨g,i,none⟩=some u):b.cell? ⟨g,i,none⟩=some u:=(h.below.cell (p:=⟨g,i,none⟩) (aiI hc)).trans hc
theorem Kp.fz{a b:World}(h:Kp a b){g i:Nat}{f:Bool}(hg:g<a.heap.size)(hc:a.frozen? ⟨g,i,none⟩=f):b.frozen? ⟨g,i,none⟩=f:=(h.below.frozen (p:=⟨g,i,none⟩) hg).trans hc
theorem Kp.al{a b:World}{o:Obj}(h:Kp (a.alloc o) b):Kp a b:=((Kp.refl a).alloc o).trans h
theorem Kp.lt{a b:World}(h:Kp a b){g:Nat}(hg:g<a.heap.size):g<b.heap.size:=Nat.lt_of_lt_of_le hg h.size
theorem Kp.cf{a b:World}(h:Kp a b){n:Nat}(hn:a.heap.size=n):(∀g i,g<n->b.cell? ⟨g,i,none⟩=a.cell? ⟨g,i,none⟩)/\(∀g i,g<n->b.frozen? ⟨g,i,none⟩=a.frozen? ⟨g,i,none⟩):=by
 subst hn
 exact⟨fun g i hg=>h.below.cell (p:=⟨g,i,none⟩) hg,fun g i hg=>h.below.frozen (p:=⟨g,i,none⟩) hg⟩
end Go.Proofs.YthppkofceancjaaGreat
namespace Go.Proofs.YthppkofceancjaaGreat
open Go.ChangeShapes Go.WideShapes Go.ChangeAt Go.RowKit
structure jR(α:Type) where
 f:α->List Value
 k:Nat
 u8:Nat
 hf:∀x,(f x).length=k
def Rd{α:Type}(C:jR α)(w:World)(B:Nat)(A:Option Addr)(xs:List α):Prop:=Sl w B C.k C.u8 A xs.length (xs.flatMap C.f)
def Rv{α:Type}(C:jR α)(w:World)(B:Nat)(v:Value)(xs:List α):Prop:=∃A c,v=.slice A xs.length c/\xs.length<=c/\Rd C w B A xs
def Ow{α:Type}(C:jR α)(E:TypeId)(w:World)(base:Nat)(v:Value)(xs:List α):Prop:=w.ownsRow base E C.k v xs.length (xs.flatMap C.f)
section
variable {α : Type} {C : jR α} {w w' : World} {B B' : Nat} {A : Option Addr} {v : Value} {xs : List α} {E : TypeId} {base : Nat}
theorem Rd.mono(h:Rd C w B A xs)(hB:B<=B'):Rd C w B' A xs:=Sl.mono h hB
theorem Rd.below(h:Rd C w B A xs)(hb:Below B w w'):Rd C w' B A xs:=Sl.below h hb
theorem Rd.kp(h:Rd C w w.heap.size A xs)(k:Kp w w'):Rd C w' w'.heap.size A xs:=(h.below k.below).mono k.size
theorem Rd.room(h:Rd C w B A xs):xs.length*C.u8<=140737488355328:=h.2.1
theorem Rd.dW:Rd C w B A []:=Sl.dW
theorem Rd.at_ [Inhabited α](h:Rd C w B A xs){i:Nat}(hi:i<xs.length):∃b off,A=some ⟨b,off,none⟩/\b<B/\∀j u,j<C.k->(C.f (ga xs i))[j]? =some u->w.cell? ⟨b,off+(i*C.k+j),none⟩=some u:=by
 obtain⟨b,off,e,hb,hc⟩:=Sl.at_ h (by omega)
 exact⟨b,off,e,hb,fun j u hj hu=>hc _ u (by rw[lJ C.hf hi hj,<-fJ hi];exact hu)⟩
theorem Rv.below(h:Rv C w B v xs)(hb:Below B w w'):Rv C w' B v xs:=by
 obtain⟨A,c,e,hc,h⟩:=h
 exact⟨A,c,e,hc,h.below hb⟩
theorem Ow.dW:Ow C E w base (.slice none 0 0) []:=abH w base E C.k
theorem Ow.kp(h:Ow C E w base v xs)(hk:Kp w w'):Ow C E w' base v xs:=aca h hk
theorem Ow.lt(h:Ow C E w base v xs):∀k,v.ownBlock=some k->base<=k/\k<w.heap.size:=World.ownsRow.lt h
theorem Ow.kept{row:Option Nat}(h:Ow C E w base v xs)(hg:Gr w w' row)(hne:v.ownBlock=none\/v.ownBlock≠row):Ow C E w' base v xs:=World.ownsRow.kept h hg hne
theorem Ow.sl(h:Ow C E w base v xs):∃A c,v=.slice A xs.length c/\xs.length<=c:=by
 rcases h.2 with⟨rfl,h1⟩|⟨g,cap,cur,rfl,hg,_,hle,_⟩
 ·exact⟨none,0,by rw[h1],by omega⟩
 ·exact⟨_,cap,rfl,hle⟩
theorem Ow.form(h:Ow C E w base v xs)(h0:0<xs.length):∃g cap,v=.slice (some ⟨g,0,none⟩) xs.length cap/\base<=g/\g<w.heap.size/\xs.length<=cap:=by
 have h':=h
 rcases h.2 with⟨_,h1⟩|⟨g,cap,cur,rfl,hg,_,hle,_⟩
 ·omega
 ·exact⟨g,cap,rfl,hg,(h'.lt g rfl).2,hle⟩
theorem Ow.qU{n c:Nat}(h:Ow C E w base (.slice A n c) xs):n=xs.length:=by
 rcases h.2 with⟨h1,h2⟩|⟨g,c,cur,h1,_⟩
 ·injection h1 with _ h3;omega
 ·injection h1
theorem Ow.cell [Inhabited α]{g n c:Nat}(h:Ow C E w base (.slice (some ⟨g,0,none⟩) n c) xs){i:Nat}(hi:i<xs.length){j:Nat}{u:Value}(hj:j<C.k)(hu:(C.f (ga xs i))[j]? =some u):w.cell? ⟨g,i*C.k+j,none⟩=some u:=by
 obtain rfl:=h.qU
 have hlt:i*C.k+j<xs.length*C.k:=by
  have:=Nat.mul_le_mul_right C.k (show i+1<=xs.length by omega)
  rw[Nat.succ_mul]at this
  omega
 rw[World.ownsRow.cellAt h _ hlt,lJ C.hf hi hj,<-fJ hi,hu]
theorem Ow.free{g n c:Nat}(h:Ow C E w base (.slice (some ⟨g,0,none⟩) n c) xs)(i:Nat):w.frozen? ⟨g,i,none⟩=false:=by
 obtain rfl:=h.qU
 exact World.ownsRow.frozenAt h i
end
structure Cr where
 a:Int
 b:Int
 c:Int
 d:Int
 plus:Bool
instance :Inhabited Cr:=⟨⟨0,0,0,0,false⟩⟩
def lD(x:Cr):List Value:=[.int .i64 x.a,.int .i64 x.b,.int .i64 x.c,.int .i64 x.d,.bool x.plus]
def jD:jR Cr:=⟨lD,5,40,fun _=>rfl⟩
def vY(x:Cr):Value:=.agg #[.int .i64 x.a,.int .i64 x.b,.int .i64 x.c,.int .i64 x.d,.bool x.plus]
theorem yo{w:World}{B:Nat}{A:Option Addr}{xs:List Cr}(h:Rd jD w B A xs){i:Nat}(hi:i<xs.length):∃b off,A=some ⟨b,off,none⟩/\b<B/\
  w.cell? ⟨b,off+i*5,none⟩=some (.int .i64 (ga xs i).a)/\w.cell? ⟨b,off+i*5+1,none⟩=some (.int .i64 (ga xs i).b)/\
  w.cell? ⟨b,off+i*5+2,none⟩=some (.int .i64 (ga xs i).c)/\w.cell? ⟨b,off+i*5+3,none⟩=some (.int .i64 (ga xs i).d)/\
  w.cell? ⟨b,off+i*5+4,none⟩=some (.bool (ga xs i).plus):=by
 obtain⟨b,off,e,hb,hc⟩:=h.at_ hi
 exact⟨b,off,e,hb,hc 0 _ (by decide) rfl,hc 1 _ (by decide) rfl,hc 2 _ (by decide) rfl,hc 3 _ (by decide) rfl,hc 4 _ (by decide) rfl⟩
structure Dg where
 ae:List Cr
 loops:Int
def kF(w:World)(B:Nat)(v:Value)(d:Dg):Prop:=∃A c,v=.agg #[.slice A d.ae.length c,.int .i64 d.loops]/\d.ae.length<=c/\Rd jD w B A d.ae
theorem vR{b n:Nat}(h:b<n):b<n/\b<n+1/\b<n+2/\b<n+3/\b<n+4:=by omega
def bB(w:World)(g:Nat)(t:TypeId)(cs:Array Value):Prop:=w.heap[g]? =some (.cells cs t (0,0))
section
variable {w w' : World} {g : Nat} {t : TypeId} {cs : Array Value}
theorem bB.lt(h:bB w g t cs):g<w.heap.size:=by
 rcases Nat.lt_or_ge g w.heap.size with hlt|hge
 ·exact hlt
 ·unfold bB at h;rw[Array.getElem?_eq_none hge]at h;cases h
theorem bB.cell(h:bB w g t cs)(i:Nat){u:Value}(hu:cs[i]? =some u):w.cell? ⟨g,i,none⟩=some u:=by rw[cell_of_row w g i cs t (0,0) h,hu]
theorem bB.free(h:bB w g t cs)(i:Nat):w.frozen? ⟨g,i,none⟩=false:=frozen_of_row w g i cs t h
theorem bB.new(w:World)(t:TypeId)(cs:Array Value):bB (w.alloc (.cells cs t)) w.heap.size t cs:=heap_alloc_new w _
theorem bB.new'(w:World)(t:TypeId)(cs:Array Value){n:Nat}(hn:w.heap.size=n):bB (w.alloc (.cells cs t)) n t cs:=by subst hn;exact heap_alloc_new w _
theorem bB.drewN(h:bB w g t cs)(n:Nat):bB (w.drewN n) g t cs:=h
theorem bB.drew(h:bB w g t cs):bB w.drew g t cs:=h
theorem bB.alloc(h:bB w g t cs)(o:Obj):bB (w.alloc o) g t cs:=(Below.heap_alloc w o g h.lt).trans h
theorem bB.far(h:bB w g t cs){p:Addr}(hp:g≠p.block)(u:Value):bB (w.setCell p u) g t cs:=(Below.heap_setCell w p u g hp).trans h
theorem bB.kp(h:bB w g t cs)(hk:Kp w w'):bB w' g t cs:=(hk.block g h.lt).trans h
theorem bB.gr{row:Option Nat}(h:bB w g t cs)(hg:Gr w w' row)(hne:some g≠row):bB w' g t cs:=(hg.block g h.lt hne).trans h
end
theorem bB.two{w:World}{g:Nat}{t:TypeId}{x y:Value}(h:bB w g t #[x,y]):w.cell? ⟨g,0,none⟩=some x/\w.cell? ⟨g,1,none⟩=some y/\w.frozen? ⟨g,0,none⟩=false/\w.frozen? ⟨g,1,none⟩=false:=
 ⟨h.cell 0 rfl,h.cell 1 rfl,h.free 0,h.free 1⟩
theorem abM{P:Program}{T E:TypeId}{k u8:Nat}{z:Value}(hT:zF P T E k u8 z)(n:Nat)(x:Int)(hx:x=(n:Int))(hb:n*u8<=140737488355328)(w:World):
  (Instr.makeSlice T (.int .i64 x) (.int .i64 x)).run P w=.ok (.slice (some ⟨w.heap.size,0,none⟩) n n) (w.alloc (.cells (madeCells z.cells (n*k)) E)):=by
 subst hx
 obtain⟨ht,hinfo,hzs,hsz,h8⟩:=hT
 obtain⟨i,hi,hz,hsize,hby⟩:=info_parts hinfo
 have h1:n*1<=n*u8:=Nat.mul_le_mul_left n h8
 have hr:=run_make (P:=P) w T E i z ht hi hz .i64 .i64 (n:Int) (n:Int) (by omega) (by omega) (by
  rw[hby]
  have h:((u8*n:Nat):Int)<=140737488355328:=by rw[Nat.mul_comm];omega
  rw[Int.natCast_mul]at h
  omega) (by omega)
 rw[hsize]at hr
 simpa using hr
theorem agu{α:Type}(C:jR α)(y:α)(z:Value)(hz:z.cells.toList=C.f y)(n:Nat):(madeCells z.cells (n*C.k)).toList=(List.replicate n y).flatMap C.f:=by
 have hk:z.cells.size=C.k:=by rw[<-C.hf y,<-hz];simp
 apply List.ext_getElem?
 intro m
 by_cases hm:m<n*C.k
 ·have mo:0<C.k:=by
   rcases Nat.eq_zero_or_pos C.k with h|h
   ·rw[h,Nat.mul_zero]at hm;omega
   ·exact h
  have hi:m/C.k<(List.replicate n y).length:=by rw[List.length_replicate];exact(Nat.div_lt_iff_lt_mul mo).2 hm
  have hj:m%C.k<C.k:=Nat.mod_lt _ mo
  have e:=lJ C.hf hi hj
  rw[show m/C.k*C.k+m%C.k=m by rw[Nat.mul_comm];exact Nat.div_add_mod m C.k]at e
  rw[e,List.getElem_replicate,<-hz]
  simp only[madeCells,hk,Array.toList_map,Array.toList_range,List.getElem?_map,List.getElem?_range hm,Option.map_some]
  rw[Array.getElem!_eq_getD]
  simp[hk,hj]
 ·rw[List.getElem?_eq_none,List.getElem?_eq_none]
  ·rw[jr C.hf,List.length_replicate];omega
  ·simp[madeCells];omega
theorem Ow.ajc{α:Type}{C:jR α}{E:TypeId}{w:World}{g base:Nat}{cs:Array Value}{xs:List α}(h:bB w g E cs)(hcs:cs.toList=xs.flatMap C.f)(hb:base<=g)(hm:xs.length<=maxLen):
  Ow C E w base (.slice (some ⟨g,0,none⟩) xs.length xs.length) xs:=by
 have hl:=jr C.hf xs
 refine⟨hl,.inr ⟨g,xs.length,cs,rfl,hb,h,Nat.le_refl _,hm,by rw[<-hl,<-hcs];simp,?_⟩⟩
 rw[hcs,<-hl,List.take_length]
theorem Ow.made{α:Type}{C:jR α}{E:TypeId}{w:World}{g base n:Nat}{y:α}{z:Value}(hz:z.cells.toList=C.f y)(h:bB w g E (madeCells z.cells (n*C.k)))(hb:base<=g)(hm:n<=maxLen):
  Ow C E w base (.slice (some ⟨g,0,none⟩) n n) (List.replicate n y):=by
 have:=Ow.ajc (C:=C) (xs:=List.replicate n y) h (agu C y z hz n) hb (by simpa using hm)
 simpa using this
def yq:jR Int:=⟨fun x=>[iv x],1,8,fun _=>rfl⟩
theorem abU(xs:List Int):xs.flatMap yq.f=xs.map iv:=by
 induction xs with
 |nil=>rfl
 |cons x xs ih=>rw[List.flatMap_cons,ih];rfl
theorem ei.acC{w:World}{base:Nat}{v:Value}{xs:List Int}(h:Ow yq 3 w base v xs):ei w base v xs:=by
 unfold ei
 rw[<-abU]
 exact h
theorem Kp.alt{w w1:World}{o:Obj}(h:Kp (w.alloc o) w1):w.heap.size<w1.heap.size:=by
 have:=h.size
 simp at this
 omega
theorem Ow.base{α:Type}{C:jR α}{E:TypeId}{w:World}{b b':Nat}{v:Value}{xs:List α}(h:Ow C E w b v xs)(hb:b'<=b):Ow C E w b' v xs:=by
 rcases h with⟨h1,h2|⟨g,cap,cur,r1,r2,r3⟩⟩
 ·exact⟨h1,.inl h2⟩
 ·exact⟨h1,.inr ⟨g,cap,cur,r1,by omega,r3⟩⟩
theorem Ow.j0{α β:Type}{C:jR α}{C':jR β}{E E':TypeId}{w:World}{b b':Nat}{v v':Value}{xs:List α}{ys:List β}(h:Ow C E w b v xs)(h':Ow C' E' w b' v' ys)(hne:E≠E'):v.ownBlock=none\/v.ownBlock≠v'.ownBlock:=by
 rcases h.2 with⟨rfl,_⟩|⟨g,cap,cur,rfl,_,hh,_⟩
 ·exact .inl rfl
 ·rcases h'.2 with⟨rfl,_⟩|⟨g',cap',cur',rfl,_,hh',_⟩
  ·exact .inr (by simp[Value.ownBlock])
  ·refine .inr fun e=>?_
   simp only[Value.ownBlock,Option.some.injEq]at e
   subst e
   rw[hh]at hh'
   injection hh' with h1
   injection h1 with _ h2
   exact hne h2
theorem Ow.AB{α:Type}{C:jR α}{E t:TypeId}{w:World}{b g:Nat}{v:Value}{xs:List α}{cs:Array Value}(h:Ow C E w b v xs)(h':bB w g t cs)(hne:E≠t):v.ownBlock=none\/v.ownBlock≠some g:=by
 rcases h.2 with⟨rfl,_⟩|⟨g',cap,cur,rfl,_,hh,_⟩
 ·exact .inl rfl
 ·refine .inr fun e=>?_
  simp only[Value.ownBlock,Option.some.injEq]at e
  subst e
  unfold bB at h'
  rw[hh]at h'
  injection h' with h1
  injection h1 with _ h2
  exact hne h2
theorem Ow.adi{α:Type}[Inhabited α]{C:jR α}{E:TypeId}{w:World}{base g n c:Nat}{xs:List α}(h:Ow C E w base (.slice (some ⟨g,0,none⟩) n c) xs)(hk:C.k=2){i:Nat}(hi:i<xs.length)(u0 u1:Value)(y:α)(hy:C.f y=[u0,u1]):
  Ow C E ((w.setCell ⟨g,i*2,none⟩ u0).setCell ⟨g,i*2+1,none⟩ u1) base (.slice (some ⟨g,0,none⟩) n c) (xs.set i y):=by
 obtain rfl:=h.qU
 have hl:(C.f (ga xs i)).length=2:=by rw[C.hf,hk]
 have e1:=(World.ownsRow.stored h (i*2) u0).1
 have e2:=(World.ownsRow.stored e1 (i*2+1) u1).1
 unfold Ow
 rw[List.length_set]
 have hx:((xs.flatMap C.f).set (i*2) u0).set (i*2+1) u1=(xs.set i y).flatMap C.f:=by
  apply List.ext_getElem?
  intro m
  have hm2:m=m/2*2+m%2:=by omega
  by_cases hm:m<xs.length*2
  ·have qb:m/2<xs.length:=by omega
   have zi:m%2<C.k:=by omega
   have g1:=lJ C.hf qb zi
   have g2:=lJ (xs:=xs.set i y) C.hf (i:=m/2) (j:=m%2) (by rw[List.length_set];exact qb) zi
   rw[hk,<-hm2]at g1 g2
   rw[g2,List.getElem?_set,List.getElem?_set,List.length_set,jr C.hf,hk,g1]
   by_cases h1:i=m/2
   ·have e:(xs.set i y)[m/2]'(by rw[List.length_set];exact qb)=y:=by subst h1;simp
    rw[e,hy]
    rcases(show m%2=0\/m%2=1 by omega)with h2|h2
    ·rw[if_neg (by omega),if_pos (by omega),if_pos (by omega),h2];rfl
    ·rw[if_pos (by omega),if_pos (by omega),h2];rfl
   ·have e:(xs.set i y)[m/2]'(by rw[List.length_set];exact qb)=xs[m/2]:=by rw[List.getElem_set_ne (by omega)]
    rw[e,if_neg (by omega),if_neg (by omega)]
  ·rw[List.getElem?_eq_none (by rw[List.length_set,List.length_set,jr C.hf,hk];omega),List.getElem?_eq_none (by rw[jr C.hf,List.length_set,hk];omega)]
 rw[<-hx]
 exact e2
theorem abQ{w:World}{g i j:Nat}(u v:Value):Gr w ((w.setCell ⟨g,i,none⟩ u).setCell ⟨g,j,none⟩ v) (some g):=D7 (D7 (EG w _) i u) j v
theorem abR{w:World}{g i:Nat}(u:Value):Gr w (w.setCell ⟨g,i,none⟩ u) (some g):=D7 (EG w _) i u
theorem bB.cr{w:World}{g:Nat}{t:TypeId}{a b c d e:Value}(h:bB w g t #[a,b,c,d,e]):w.cell? ⟨g,0,none⟩=some a/\w.cell? ⟨g,1,none⟩=some b/\w.cell? ⟨g,2,none⟩=some c/\w.cell? ⟨g,3,none⟩=some d/\w.cell? ⟨g,4,none⟩=some e:=
 ⟨h.cell 0 rfl,h.cell 1 rfl,h.cell 2 rfl,h.cell 3 rfl,h.cell 4 rfl⟩
theorem bB.four{w:World}{g:Nat}{t:TypeId}{a b c d:Value}(h:bB w g t #[a,b,c,d]):w.cell? ⟨g,0,none⟩=some a/\w.cell? ⟨g,1,none⟩=some b/\w.cell? ⟨g,2,none⟩=some c/\w.cell? ⟨g,3,none⟩=some d:=
 ⟨h.cell 0 rfl,h.cell 1 rfl,h.cell 2 rfl,h.cell 3 rfl⟩
end Go.Proofs.YthppkofceancjaaGreat
namespace Go.Proofs.YthppkofceancjaaGreat
open Go.ChangeShapes Go.WideShapes Go.ChangeAt Go.RowKit
def cD(x:Cr)(k:Nat):Int:=if k=0 then x.a else if k=1 then x.b else if k=2 then x.c else x.d
def l7(x:Cr)(k:Nat):Bool:=decide (k=0\/k=1/\x.plus=false\/k=3/\x.plus=true)
def bt(d:Dg)(c k:Nat):Int:=cD (ga d.ae c) k
def cH(d:Dg)(c k:Nat):Bool:=l7 (ga d.ae c) k
def EI(n:Int)(w:World)(e:Ending)(w':World):Prop:=e=.returned (.int .i64 n)/\Kp w w'
def uN(b:Bool)(w:World)(e:Ending)(w':World):Prop:=e=.returned (.bool b)/\Kp w w'
set_option maxHeartbeats 1000000 in
theorem wj(v:Value)(d:Dg)(c k:Nat)(w:World)(hd:kF w w.heap.size v d)(hc:c<d.ae.length)(hk:k<4):
  Calls Tryz.prog 72 #[v,.agg #[.int .i64 c,.int .i64 k]] w (EI (bt d c k) w):=by
 obtain⟨A,cap,rfl,hcap,hr⟩:=hd
 have hrm:=hr.room
 obtain⟨b,off,rfl,hb,c0,c1,c2,c3,c4⟩:=yo hr hc
 have hkk:k=0\/k=1\/k=2\/k=3:=by omega
 obtain⟨l0,l1,l2,l3,l4⟩:=vR hb
 clear hr
 rcases hkk with rfl|rfl|rfl|rfl
 all_goals
  go_enter Tryz.func72,Tryz.ntmps72
  go_wp2_with fail
  go_ret
  exact⟨rfl,(((Kp.refl _).alloc _).alloc _).alloc _⟩
set_option maxHeartbeats 2000000 in
theorem zT(v:Value)(d:Dg)(c k:Nat)(w:World)(hd:kF w w.heap.size v d)(hc:c<d.ae.length)(hk:k<4):
  Calls Tryz.prog 73 #[v,.agg #[.int .i64 c,.int .i64 k]] w (uN (cH d c k) w):=by
 obtain⟨A,cap,rfl,hcap,hr⟩:=hd
 have hrm:=hr.room
 obtain⟨b,off,rfl,hb,c0,c1,c2,c3,c4⟩:=yo hr hc
 obtain⟨l0,l1,l2,l3,l4⟩:=vR hb
 have hkk:k=0\/k=1\/k=2\/k=3:=by omega
 clear hr c0 c1 c2 c3
 unfold cH
 generalize ga d.ae c=x at*
 obtain⟨xa,xb,xc,xd,xp⟩:=x
 dsimp only at c4
 rcases hkk with rfl|rfl|rfl|rfl
 all_goals
  cases xp
  all_goals
   go_enter Tryz.func73,Tryz.ntmps73
   go_wp2_with fail
   go_ret
   exact⟨rfl,((Kp.refl _).alloc _).alloc _⟩
def fE(d:Dg)(a:Int)(back:Bool)(j:Nat):Bool:=decide (bt d (j/4) (j%4)=a)&&(cH d (j/4) (j%4)!=back)
def Ud(d:Dg)(a:Int)(back:Bool):Nat×Nat:=
 match(List.range (4*d.ae.length)).find? (fE d a back)with
 |some j=>(j/4,j%4)
 |none=>(0,0)
theorem Eh{d:Dg}{a:Int}{back:Bool}{j:Nat}(hj:j<4*d.ae.length)(h:fE d a back j=true)(h0:∀i,i<j->fE d a back i=false):Ud d a back=(j/4,j%4):=by
 have:(List.range (4*d.ae.length)).find? (fE d a back)=some j:=by
  rw[List.find?_range_eq_some]
  exact⟨h,by simpa using hj,fun i hi=>by simp[h0 i hi]⟩
 unfold Ud
 rw[this]
theorem aaw{d:Dg}{a:Int}{back:Bool}(h0:∀i,i<4*d.ae.length->fE d a back i=false):Ud d a back=(0,0):=by
 have:(List.range (4*d.ae.length)).find? (fE d a back)=none:=by
  rw[List.find?_eq_none]
  intro i hi
  simp[h0 i (by simpa using hi)]
 unfold Ud
 rw[this]
theorem uG{d:Dg}{a:Int}{back:Bool}{i k:Nat}(hk:k<4):fE d a back (4*i+k)=(decide (bt d i k=a)&&(cH d i k !=back)):=by
 unfold fE
 rw[show(4*i+k)/4=i by omega,show(4*i+k)%4=k by omega]
end Go.Proofs.YthppkofceancjaaGreat
namespace Go.Proofs.YthppkofceancjaaGreat
open Go.ChangeShapes Go.WideShapes Go.ChangeAt Go.RowKit
def aG:Cd Cr:=⟨lD,5,40,77,⟨0,0,0,0,false⟩,fun _=>rfl,by
 intro x u hu
 simp[lD]at hu
 rcases hu with rfl|rfl|rfl|rfl|rfl<;>rfl⟩
end Go.Proofs.YthppkofceancjaaGreat
namespace Go.Proofs.YthppkofceancjaaGreat
open Go.ChangeShapes Go.WideShapes Go.ChangeAt Go.RowKit
def aiQ(w:World)(e:Ending)(w':World):Prop:=e=.returned (.bool true)/\Kp w w'
set_option maxHeartbeats 2000000 in
theorem ai6(u v:Value)(d:Dg)(w:World)(hu:kF w w.heap.size u d)(hv:kF w w.heap.size v d):
  Calls Tryz.prog 11 #[u,v] w (aiQ w):=by
 obtain⟨A,c,rfl,hc,ha⟩:=hu
 obtain⟨A',c',rfl,hc',ha'⟩:=hv
 have hr:d.ae.length*40<=140737488355328:=ha.room
 go_enter Tryz.func11,Tryz.ntmps11
 go_wp2_with fail
 go_loopw [5] (fun i wr=>∃k:Nat,k<=d.ae.length/\i=.int .i64 k/\Kp w wr/\bB wr w.heap.size 24 #[.slice A d.ae.length c,.int .i64 d.loops]/\bB wr (w.heap.size+1) 24 #[.slice A' d.ae.length c',.int .i64 d.loops]) (fun i _=>d.ae.length-(intOf i).toNat)
 case atStart=>exact⟨0,Nat.zero_le _,rfl,((Kp.refl _).alloc _).alloc _,(bB.new _ _ _).alloc _,bB.new' _ _ _ (by simp)⟩
 case round=>
  obtain⟨k,hk,rfl,hkp,hB,hB'⟩:=hrel
  obtain⟨e0,e1,e2,e3⟩:=hB.two
  obtain⟨f0,f1,f2,f3⟩:=hB'.two
  by_cases hlt:k<d.ae.length
  ·obtain⟨b,off,rfl,hb1,c0,c1,c2,c3,c4⟩:=yo (ha.kp hkp) hlt
   obtain⟨b',off',rfl,hb2,c0',c1',vZ,c3',c4'⟩:=yo (ha'.kp hkp) hlt
   clear ha ha'
   go_wp2_with fail
   go_quiet (fail)
   go_wp2_with fail
   go_roundw
   case rel=>exact⟨k+1,by omega,by go_num,hkp.drewN _,hB.drewN _,hB'.drewN _⟩
   case measure=>simp[intOf]<;>omega
  ·go_wp2_with fail
   go_ret
   exact⟨rfl,hkp⟩
theorem amf:zF Tryz.prog 22 77 5 40 (.agg #[.int .i64 0,.int .i64 0,.int .i64 0,.int .i64 0,.bool false]):=⟨bG,by kernel_rfl,rfl,by omega,by omega⟩
theorem ajF(xs:List Cr):∀u∈xs.flatMap jD.f,u.oneCell'=true:=by
 intro u hu
 obtain⟨x,_,hx⟩:=List.mem_flatMap.1 hu
 simp[jD,lD]at hx
 rcases hx with rfl|rfl|rfl|rfl|rfl<;>rfl
end Go.Proofs.YthppkofceancjaaGreat
namespace Go.Proofs.YthppkofceancjaaGreat
open Go.ChangeShapes Go.WideShapes Go.ChangeAt Go.RowKit
def cZ(d:Dg)(a:Int)(back:Bool)(j:Nat):Nat:=(List.range j).countP (fE d a back)
theorem uj(d:Dg)(a:Int)(back:Bool)(j:Nat):cZ d a back (j+1)=cZ d a back j+if fE d a back j=true then 1 else 0:=by
 unfold cZ
 rw[List.range_succ,List.countP_append,List.countP_singleton]
theorem uH(d:Dg)(a:Int)(back:Bool)(j:Nat):cZ d a back j<=j:=by
 unfold cZ
 have:=List.countP_le_length (p:=fE d a back) (l:=List.range j)
 simpa using this
theorem abZ{d:Dg}{a:Int}{back:Bool}{i k:Nat}(hk:k<4):
  cZ d a back (4*i+(k+1))=cZ d a back (4*i+k)+if bt d i k=a/\cH d i k≠back then 1 else 0:=by
 rw[<-Nat.add_assoc,uj,uG hk]
 simp
def ky(d:Dg)(a:Int):Bool:=cZ d a false (4*d.ae.length)==1&&cZ d a true (4*d.ae.length)==1
def gW(d:Dg):Bool:=decide (d.ae.length<=16/\0<=d.loops/\d.loops<=16/\¬(d.ae.length=0/\d.loops=0))&&(List.range (2*d.ae.length)).all fun a=>ky d ((a+1:Nat):Int)
theorem aaJ{d:Dg}(h:¬(d.ae.length<=16/\0<=d.loops/\d.loops<=16/\¬(d.ae.length=0/\d.loops=0))):gW d=false:=by
 unfold gW;rw[decide_eq_false h];rfl
theorem abe{d:Dg}{a:Nat}(h0:1<=a)(h1:a<=2*d.ae.length)(h:ky d a=false):gW d=false:=by
 unfold gW
 rw[Bool.and_eq_false_iff]
 refine .inr (List.all_eq_false.2 ⟨a-1,by simp;omega,?_⟩)
 rw[show a-1+1=a by omega,h];simp
theorem ahC{d:Dg}(h:d.ae.length<=16/\0<=d.loops/\d.loops<=16/\¬(d.ae.length=0/\d.loops=0))(h2:∀a:Nat,1<=a->a<=2*d.ae.length->ky d a=true):gW d=true:=by
 unfold gW
 rw[decide_eq_true h,Bool.true_and]
 refine List.all_eq_true.2 fun a ha=>h2 (a+1) (by omega) ?_
 simp at ha
 omega
set_option maxHeartbeats 2000000 in
theorem afT(v:Value)(d:Dg)(w:World)(hd:kF w w.heap.size v d)(h:¬(d.ae.length<=16/\0<=d.loops/\d.loops<=16/\¬(d.ae.length=0/\d.loops=0))):
  Calls Tryz.prog 31 #[v] w (uN false w):=by
 obtain⟨A,cap,rfl,hcap,hr⟩:=hd
 have hrm:d.ae.length*40<=140737488355328:=hr.room
 clear hr
 obtain⟨cs,loops⟩:=d
 dsimp only at*
 generalize cs.length=n at*
 by_cases h1:16<n
 ·go_enter Tryz.func31,Tryz.ntmps31
  go_wp2_with fail
  go_ret
  exact⟨rfl,(Kp.refl _).alloc _⟩
 ·by_cases h2:loops<0
  ·go_enter Tryz.func31,Tryz.ntmps31
   go_wp2_with fail
   go_ret
   exact⟨rfl,(Kp.refl _).alloc _⟩
  ·by_cases h3:16<loops
   ·go_enter Tryz.func31,Tryz.ntmps31
    go_wp2_with fail
    go_ret
    exact⟨rfl,(Kp.refl _).alloc _⟩
   ·obtain⟨rfl,rfl⟩:n=0/\loops=0:=by omega
    go_enter Tryz.func31,Tryz.ntmps31
    go_wp2_with fail
    go_ret
    exact⟨rfl,(Kp.refl _).alloc _⟩
set_option maxHeartbeats 4000000 in
theorem afU(v:Value)(d:Dg)(w:World)(hd:kF w w.heap.size v d)(h:d.ae.length<=16/\0<=d.loops/\d.loops<=16/\¬(d.ae.length=0/\d.loops=0)):
  Calls Tryz.prog 31 #[v] w (uN (gW d) w):=by
 obtain⟨A,cap,rfl,hcap,hr⟩:=hd
 have hd:∀w',Kp w w'->kF w' w'.heap.size (.agg #[.slice A d.ae.length cap,.int .i64 d.loops]) d:=fun w' hk=>⟨A,cap,rfl,hcap,hr.kp hk⟩
 have HD:=Lib.hid hd
 clear hd hr
 have Hsz:=Lib.hid h
 obtain⟨h1,h2,h3,h4⟩:=h
 have hq:¬(d.ae.length=0/\d.loops=0)->(((d.ae.length:Int)==0:Bool)=false)\/((((d.ae.length:Int)==0):Bool)=true/\((d.loops==0):Bool)=false):=by
  intro h
  by_cases h0:d.ae.length=0
  ·exact .inr ⟨by rw[beq_iff_eq];omega,by rw[beq_eq_false_iff_ne];omega⟩
  ·exact .inl (by rw[beq_eq_false_iff_ne];omega)
 have hq':=hq h4
 clear hq h4
 go_enter Tryz.func31,Tryz.ntmps31
 go_upto_region 2 with(fail)
 go_cut [33] (fun c wx=>c=.bool false/\wx=w.alloc (.cells #[.slice A d.ae.length cap,.int .i64 d.loops] 24))
 case first=>
  rcases hq' with hq'|⟨hq',avS⟩
  ·go_wp2_with fail
   go_meet
   case rel=>exact⟨congrArg Value.bool (by simp;omega),rfl⟩
  ·go_wp2_with fail
   go_meet
   case rel=>exact⟨congrArg Value.bool (by simp;omega),rfl⟩
 case rest=>
  obtain⟨rfl,rfl⟩:=hcut
  clear hq'
  go_wp2_with fail
  go_loopw [4] (fun i wr=>∃a:Nat,1<=a/\a<=2*d.ae.length+1/\i=.int .i64 a/\Hid (∀a':Nat,1<=a'->a'<a->ky d a'=true)/\Kp w wr/\
   bB wr w.heap.size 24 #[.slice A d.ae.length cap,.int .i64 d.loops]) (fun i _=>2*d.ae.length+1-(intOf i).toNat)
  case atStart=>exact⟨1,by omega,by omega,rfl,fun a h1 h2=>by omega,(Kp.refl _).alloc _,bB.new _ _ _⟩
  case round=>
   obtain⟨a,ha0,ha1,rfl,hok,hk,hB⟩:=hrel
   by_cases hlt:a<=2*d.ae.length
   ·obtain⟨wo,rfl⟩:∃wo:World,wo=wr:=⟨_,rfl⟩
    have ta:decide ((a:Int)<=2*(d.ae.length:Int))=true:=by simp;omega
    go_wp2_with fail
    go_loopw [5,6,7] (fun ci co i wr=>∃n:Nat,n<=d.ae.length/\i=.int .i64 n/\ci=.int .i64 (cZ d a false (4*n))/\co=.int .i64 (cZ d a true (4*n))/\Kp w wr/\
     bB wr w.heap.size 24 #[.slice A d.ae.length cap,.int .i64 d.loops]) (fun _ _ i _=>d.ae.length-(intOf i).toNat)
    case atStart=>exact⟨0,Nat.zero_le _,rfl,rfl,rfl,hk,hB⟩
    case round=>
     clear hk hB
     obtain⟨n,hn,rfl,rfl,rfl,hk,hB⟩:=hrel
     by_cases jW:n<d.ae.length
     ·clear wo
      obtain⟨wo,rfl⟩:∃wo:World,wo=wr:=⟨_,rfl⟩
      have cl1:=uH d a false (4*n)
      have ui:=uH d a true (4*n)
      go_wp2_with fail
      go_loopw [5,6,8] (fun ci co i wr=>∃m:Nat,m<=4/\i=.int .i64 m/\ci=.int .i64 (cZ d a false (4*n+m))/\co=.int .i64 (cZ d a true (4*n+m))/\Kp w wr/\
       bB wr w.heap.size 24 #[.slice A d.ae.length cap,.int .i64 d.loops]) (fun _ _ i _=>4-(intOf i).toNat)
      case atStart=>exact⟨0,Nat.zero_le _,rfl,rfl,rfl,hk,hB⟩
      case round=>
       clear hk hB cl1 ui
       obtain⟨m,hm,rfl,rfl,rfl,hk,hB⟩:=hrel
       obtain⟨e0,e1,e2,e3⟩:=hB.two
       obtain⟨s00,s01,s02,s03,s04⟩:=vR hB.lt
       by_cases iO:m<4
       ·have c1:=abZ (d:=d) (a:=a) (back:=false) (i:=n) iO
        have c2:=abZ (d:=d) (a:=a) (back:=true) (i:=n) iO
        have cl1:=uH d a false (4*n+m)
        have ui:=uH d a true (4*n+m)
        by_cases ha:bt d n m=(a:Int)
        ·have t1:((bt d n m==(a:Int)):Bool)=true:=by rw[beq_iff_eq];exact ha
         have s4:4*n+m<64:=by omega
         cases he:cH d n m
         ·rw[if_neg (by simp[he])]at c1
          rw[if_pos (by simp[ha,he])]at c2
          have c1':=Lib.hid c1
          have vZ:=Lib.hid c2
          have he':=Lib.hid he
          clear c1 c2 ha he
          go_wp2_with fail
          refine(wj _ d n m _ (HD.out _ (hk.alloc _)) jW iO).mono ?_;rintro e w1 ⟨rfl,hk1⟩
          obtain⟨cc,cf⟩:=hk1.cf (n:=wr.heap.size+1) (by simp)
          go_wp2_with fail
          refine(zT _ d n m _ (HD.out _ ((hk.alloc _).trans hk1)) jW iO).mono ?_;rintro e w2 ⟨rfl,hk2⟩
          obtain⟨c2,f2⟩:=(hk1.trans hk2).cf (n:=wr.heap.size+1) (by simp)
          clear cc cf
          rw[he'.out]
          go_wp2_with fail
          refine(wj _ d n m _ (HD.out _ (((hk.alloc _).trans hk1).trans hk2)) jW iO).mono ?_;rintro e w3 ⟨rfl,hk3⟩
          obtain⟨c3,f3⟩:=((hk1.trans hk2).trans hk3).cf (n:=wr.heap.size+1) (by simp)
          clear c2 f2
          go_wp2_with fail
          refine(zT _ d n m _ (HD.out _ ((((hk.alloc _).trans hk1).trans hk2).trans hk3)) jW iO).mono ?_;rintro e w4 ⟨rfl,hk4⟩
          rw[he'.out]
          go_wp2_with fail
          go_roundw
          case rel=>exact⟨m+1,by omega,by go_num,by rw[c1'.out];rfl,by rw[vZ.out];go_num,(((hk.alloc _).trans hk1).trans hk2).trans (hk3.trans hk4),(((hB.alloc _).kp hk1).kp hk2).kp (hk3.trans hk4)⟩
          case measure=>simp[intOf]<;>omega
         ·rw[if_pos (by simp[ha,he])]at c1
          rw[if_neg (by simp[he])]at c2
          have c1':=Lib.hid c1
          have vZ:=Lib.hid c2
          have he':=Lib.hid he
          clear c1 c2 ha he
          go_wp2_with fail
          refine(wj _ d n m _ (HD.out _ (hk.alloc _)) jW iO).mono ?_;rintro e w1 ⟨rfl,hk1⟩
          obtain⟨cc,cf⟩:=hk1.cf (n:=wr.heap.size+1) (by simp)
          go_wp2_with fail
          refine(zT _ d n m _ (HD.out _ ((hk.alloc _).trans hk1)) jW iO).mono ?_;rintro e w2 ⟨rfl,hk2⟩
          obtain⟨c2,f2⟩:=(hk1.trans hk2).cf (n:=wr.heap.size+1) (by simp)
          clear cc cf
          rw[he'.out]
          go_wp2_with fail
          refine(wj _ d n m _ (HD.out _ (((hk.alloc _).trans hk1).trans hk2)) jW iO).mono ?_;rintro e w3 ⟨rfl,hk3⟩
          obtain⟨c3,f3⟩:=((hk1.trans hk2).trans hk3).cf (n:=wr.heap.size+1) (by simp)
          clear c2 f2
          go_wp2_with fail
          refine(zT _ d n m _ (HD.out _ ((((hk.alloc _).trans hk1).trans hk2).trans hk3)) jW iO).mono ?_;rintro e w4 ⟨rfl,hk4⟩
          rw[he'.out]
          go_wp2_with fail
          go_roundw
          case rel=>exact⟨m+1,by omega,by go_num,by rw[c1'.out];go_num,by rw[vZ.out];rfl,(((hk.alloc _).trans hk1).trans hk2).trans (hk3.trans hk4),(((hB.alloc _).kp hk1).kp hk2).kp (hk3.trans hk4)⟩
          case measure=>simp[intOf]<;>omega
        ·have t1:((bt d n m==(a:Int)):Bool)=false:=by rw[beq_eq_false_iff_ne];exact ha
         rw[if_neg (by simp[ha])]at c1 c2
         have c1':=Lib.hid c1
         have vZ:=Lib.hid c2
         clear c1 c2 ha
         go_wp2_with fail
         refine(wj _ d n m _ (HD.out _ (hk.alloc _)) jW iO).mono ?_;rintro e w1 ⟨rfl,hk1⟩
         obtain⟨cc,cf⟩:=hk1.cf (n:=wr.heap.size+1) (by simp)
         go_wp2_with fail
         refine(wj _ d n m _ (HD.out _ ((hk.alloc _).trans hk1)) jW iO).mono ?_;rintro e w2 ⟨rfl,hk2⟩
         go_wp2_with fail
         go_roundw
         case rel=>exact⟨m+1,by omega,by go_num,by rw[c1'.out];rfl,by rw[vZ.out];rfl,((hk.alloc _).trans hk1).trans hk2,((hB.alloc _).kp hk1).kp hk2⟩
         case measure=>simp[intOf]<;>omega
       ·obtain rfl:m=4:=by omega
        go_wp2_with fail
        go_roundw
        case rel=>exact⟨n+1,by omega,by go_num,rfl,rfl,hk,hB⟩
        case measure=>simp[intOf]<;>omega
     ·obtain rfl:n=d.ae.length:=by omega
      by_cases hin:cZ d a false (4*d.ae.length)=1
      ·have i1:((((cZ d a false (4*d.ae.length):Nat):Int)!=1):Bool)=false:=by simp only[bne_eq_false_iff_eq];omega
       by_cases hout:cZ d a true (4*d.ae.length)=1
       ·have i2:((((cZ d a true (4*d.ae.length):Nat):Int)!=1):Bool)=false:=by simp only[bne_eq_false_iff_eq];omega
        have hao:Hid (ky d a=true):=by rw[Hid];unfold ky;rw[hin,hout];rfl
        clear hin hout
        go_wp2_with fail
        go_roundw
        case rel=>exact⟨a+1,by omega,by omega,by go_num,fun a' h1 h2=>by
         rcases Nat.lt_or_ge a' a with h|h
         ·exact hok.out a' h1 h
         ·obtain rfl:a'=a:=by omega
          exact hao.out,hk,hB⟩
        case measure=>simp[intOf]<;>omega
       ·have i2:((((cZ d a true (4*d.ae.length):Nat):Int)!=1):Bool)=true:=by simp only[bne_iff_ne,ne_eq];omega
        have hao:Hid (gW d=false):=abe ha0 hlt (by unfold ky;rw[hin];simp[hout])
        clear hin hout
        go_wp2_with fail
        go_ret
        exact⟨by rw[hao.out];rfl,hk⟩
      ·have i1:((((cZ d a false (4*d.ae.length):Nat):Int)!=1):Bool)=true:=by simp only[bne_iff_ne,ne_eq];omega
       have hao:Hid (gW d=false):=abe ha0 hlt (by unfold ky;simp[hin])
       clear hin
       go_wp2_with fail
       go_ret
       exact⟨by rw[hao.out];rfl,hk⟩
   ·have hao:Hid (gW d=true):=ahC Hsz.out fun a' h1 h2=>hok.out a' h1 (by omega)
    go_wp2_with fail
    go_ret
    exact⟨by rw[hao.out];rfl,hk⟩
theorem afV(v:Value)(d:Dg)(w:World)(hd:kF w w.heap.size v d):Calls Tryz.prog 31 #[v] w (uN (gW d) w):=by
 by_cases h:d.ae.length<=16/\0<=d.loops/\d.loops<=16/\¬(d.ae.length=0/\d.loops=0)
 ·exact afU v d w hd h
 ·rw[aaJ h];exact afT v d w hd h
end Go.Proofs.YthppkofceancjaaGreat
namespace Go.Proofs.YthppkofceancjaaGreat
open Go.ChangeShapes Go.WideShapes Go.ChangeAt Go.RowKit
def lastP(d:Dg)(a:Int)(back:Bool):Nat->Nat×Nat
 |0=>(0,0)
 |J+1=>if fE d a back J=true then(J/4,J%4)else lastP d a back J
theorem ag1{d:Dg}{a:Int}{back:Bool}{J:Nat}(h:cZ d a back J=0):∀j,j<J->fE d a back j=false:=by
 intro j hj
 unfold cZ at h
 rw[List.countP_eq_zero]at h
 have:=h j (by simpa using hj)
 simpa using this
theorem Ex{d:Dg}{a:Int}{back:Bool}{J:Nat}(h:cZ d a back J=1):
  ∃j,j<J/\fE d a back j=true/\(∀i,i<J->fE d a back i=true->i=j)/\lastP d a back J=(j/4,j%4):=by
 induction J with
 |zero=>simp[cZ]at h
 |succ J ih=>
  rw[uj]at h
  by_cases hJ:fE d a back J=true
  ·rw[if_pos hJ]at h
   have h0:=ag1 (show cZ d a back J=0 by omega)
   refine⟨J,by omega,hJ,fun i hi hi'=>?_,by unfold lastP;rw[if_pos hJ]⟩
   rcases Nat.lt_or_ge i J with h1|h1
   ·rw[h0 i h1]at hi';cases hi'
   ·omega
  ·rw[if_neg hJ]at h
   obtain⟨j,h1,h2,h3,h4⟩:=ih (by omega)
   refine⟨j,by omega,h2,fun i hi hi'=>?_,by unfold lastP;rw[if_neg hJ];exact h4⟩
   rcases Nat.lt_or_ge i J with h5|h5
   ·exact h3 i h5 hi'
   ·obtain rfl:i=J:=by omega
    exact absurd hi' hJ
theorem aaN{d:Dg}{a:Int}{back:Bool}(h:cZ d a back (4*d.ae.length)=1):lastP d a back (4*d.ae.length)=Ud d a back:=by
 obtain⟨j,h1,h2,h3,h4⟩:=Ex h
 rw[h4,Eh h1 h2 fun i hi=>by
  cases hq:fE d a back i
  ·rfl
  ·have:=h3 i (by omega) hq
   omega]
def eW(d:Dg)(j:Nat):Int:=bt d (j/4) (j%4)
def o9(d:Dg)(m J:Nat):Nat:=(List.range J).countP fun j=>decide (1<=eW d j/\eW d j<=(m:Int))
theorem agy(d:Dg)(m J:Nat):o9 d (m+1) J=o9 d m J+(cZ d ((m+1:Nat):Int) false J+cZ d ((m+1:Nat):Int) true J):=by
 induction J with
 |zero=>simp[o9,cZ]
 |succ J ih=>
  have e:∀m,o9 d m (J+1)=o9 d m J+if 1<=eW d J/\eW d J<=(m:Int)then 1 else 0:=by
   intro m
   unfold o9
   rw[List.range_succ,List.countP_append,List.countP_singleton]
   simp
  rw[e,e,ih,uj,uj]
  unfold fE
  change _+(if 1<=eW d J/\eW d J<=((m+1:Nat):Int)then 1 else 0)=_
  have h1:bt d (J/4) (J%4)=eW d J:=rfl
  rw[h1]
  by_cases hm:eW d J=((m+1:Nat):Int)
  ·rw[if_pos (by omega),if_neg (by omega)]
   cases cH d (J/4) (J%4)<;>simp[hm]<;>omega
  ·have e2:decide (eW d J=((m+1:Nat):Int))=false:=by simpa using hm
   rw[e2]
   simp only[Bool.false_and,Bool.false_eq_true,if_false]
   by_cases h2:1<=eW d J/\eW d J<=(m:Int)
   ·rw[if_pos (by omega),if_pos h2];omega
   ·rw[if_neg (by omega),if_neg h2];omega
theorem agZ{d:Dg}{m:Nat}(h:∀a:Nat,1<=a->a<=m->cZ d a false (4*d.ae.length)=1/\cZ d a true (4*d.ae.length)=1):o9 d m (4*d.ae.length)=2*m:=by
 induction m with
 |zero=>
  unfold o9
  rw[List.countP_eq_zero.2 (by intro j _;simp;omega)]
 |succ m ih=>
  rw[agy,ih fun a h0 h1=>h a h0 (by omega)]
  have:=h (m+1) (by omega) (by omega)
  omega
def aX(d:Dg):Bool:=(List.range (2*d.ae.length)).all fun a=>ky d ((a+1:Nat):Int)
theorem aaK(d:Dg):gW d=(decide (d.ae.length<=16/\0<=d.loops/\d.loops<=16/\¬(d.ae.length=0/\d.loops=0))&&aX d):=rfl
theorem Ej{d:Dg}(h:aX d=true)(a:Nat)(h0:1<=a)(h1:a<=2*d.ae.length):cZ d a false (4*d.ae.length)=1/\cZ d a true (4*d.ae.length)=1:=by
 have:=List.all_eq_true.1 h (a-1) (by simp;omega)
 rw[show a-1+1=a by omega]at this
 unfold ky at this
 simpa using this
theorem abq{d:Dg}{a:Nat}(h0:1<=a)(h1:a<=2*d.ae.length)(h:ky d a=false):aX d=false:=by
 refine List.all_eq_false.2 ⟨a-1,by simp;omega,?_⟩
 rw[show a-1+1=a by omega,h];simp
theorem ag7{d:Dg}(h2:∀a:Nat,1<=a->a<=2*d.ae.length->ky d a=true):aX d=true:=by
 refine List.all_eq_true.2 fun a ha=>h2 (a+1) (by omega) ?_
 simp at ha
 omega
theorem abo{d:Dg}(h:aX d=true){j:Nat}(hj:j<4*d.ae.length):1<=eW d j/\eW d j<=2*(d.ae.length:Int):=by
 have h1:=agZ (m:=2*d.ae.length) (Ej h)
 unfold o9 at h1
 have h2:(List.range (4*d.ae.length)).countP (fun j=>decide (1<=eW d j/\eW d j<=((2*d.ae.length:Nat):Int)))=(List.range (4*d.ae.length)).length:=by rw[h1];simp;omega
 rw[List.countP_eq_length]at h2
 have:=h2 j (by simpa using hj)
 rw[decide_eq_true_iff]at this
 omega
theorem abp{d:Dg}{j:Nat}(hj:j<4*d.ae.length)(h:¬(1<=eW d j/\eW d j<=2*(d.ae.length:Int))):aX d=false:=by
 cases hm:aX d
 ·rfl
 ·exact absurd (abo hm hj) h
set_option maxRecDepth 100000 in
set_option maxHeartbeats 1000000 in
theorem Av(x:Cr)(k:Nat)(w:World)(hk:k<4):Calls Tryz.prog 115 #[vY x,.int .i64 k] w (EI (cD x k) w):=by
 have hkk:k=0\/k=1\/k=2\/k=3:=by omega
 unfold vY
 obtain⟨a,b,c,d,p⟩:=x
 have i0:∀w,(Instr.index 208 (.agg #[.int .i64 a,.int .i64 b,.int .i64 c,.int .i64 d]) (.int .i64 0)).run Tryz.prog w=.ok (.int .i64 a) w:=fun _=>by kernel_rfl
 have i1:∀w,(Instr.index 208 (.agg #[.int .i64 a,.int .i64 b,.int .i64 c,.int .i64 d]) (.int .i64 1)).run Tryz.prog w=.ok (.int .i64 b) w:=fun _=>by kernel_rfl
 have i2:∀w,(Instr.index 208 (.agg #[.int .i64 a,.int .i64 b,.int .i64 c,.int .i64 d]) (.int .i64 2)).run Tryz.prog w=.ok (.int .i64 c) w:=fun _=>by kernel_rfl
 have i3:∀w,(Instr.index 208 (.agg #[.int .i64 a,.int .i64 b,.int .i64 c,.int .i64 d]) (.int .i64 3)).run Tryz.prog w=.ok (.int .i64 d) w:=fun _=>by kernel_rfl
 rcases hkk with rfl|rfl|rfl|rfl
 all_goals
  go_enter Tryz.func115,Tryz.ntmps115
  go_wp2_with fail
  go_ret
  exact⟨rfl,(Kp.refl _).alloc _⟩
def qz(x:Cr):Nat:=if x.plus=true then 3 else 1
set_option maxHeartbeats 1000000 in
theorem agt(x:Cr)(w:World):Calls Tryz.prog 170 #[vY x] w (EI (qz x) w):=by
 obtain⟨a,b,c,d,p⟩:=x
 unfold vY qz
 cases p
 all_goals
  go_enter Tryz.func170,Tryz.ntmps170
  go_wp2_with fail
  go_ret
  exact⟨rfl,(Kp.refl _).alloc _⟩
set_option maxHeartbeats 1000000 in
theorem aaW(x:Cr)(k:Nat)(w:World)(hk:k<4):Calls Tryz.prog 133 #[vY x,.int .i64 k] w (uN (l7 x k) w):=by
 have hkk:k=0\/k=1\/k=2\/k=3:=by omega
 have ho:=Lib.hid fun w'=>agt x w'
 obtain⟨a,b,c,d,p⟩:=x
 unfold vY qz at*
 rcases hkk with rfl|rfl|rfl|rfl
 ·go_enter Tryz.func133,Tryz.ntmps133
  go_wp2_with fail
  go_ret
  exact⟨rfl,(Kp.refl _).alloc _⟩
 all_goals
  cases p
  all_goals
   go_enter Tryz.func133,Tryz.ntmps133
   go_wp2_with fail
   refine(ho.out _).mono ?_;rintro e w1 ⟨rfl,hk1⟩
   go_wp2_with fail
   go_ret
   exact⟨rfl,Kp.trans ((Kp.refl _).alloc _) hk1⟩
end Go.Proofs.YthppkofceancjaaGreat
namespace Go.Proofs.YthppkofceancjaaGreat
open Go.ChangeShapes Go.WideShapes Go.ChangeAt Go.RowKit
def aiW(base:Nat)(xs:List Cr)(w:World)(e:Ending)(w':World):Prop:=∃A c,e=.returned (.slice A xs.length c)/\Ow jD 77 w' base (.slice A xs.length c) xs/\Kp w w'
set_option maxHeartbeats 1000000 in
theorem ahR(A:Option Addr)(c:Nat)(xs:List Cr)(w:World)(hr:Rd jD w w.heap.size A xs):
  Calls Tryz.prog 132 #[.slice A xs.length c] w (aiW w.heap.size xs w):=by
 have hnl:=fun(w:World) (a:Option Addr) (n c:Nat)=>Lib.run_eql_slice_nil (P:=Tryz.prog) w 22 77 a n c 0 0 bG
 cases A with
 |none=>
  have h0:xs.length=0:=by
   rcases Nat.eq_zero_or_pos xs.length with h|h
   ·exact h
   ·obtain⟨b,off,h,_⟩:=Sl.at_ hr h
    cases h
  have hx:xs=[]:=List.eq_nil_of_length_eq_zero h0
  subst hx
  go_enter Tryz.func132,Tryz.ntmps132
  go_wp2_with fail
  go_ret
  exact⟨none,0,rfl,Ow.dW,Kp.refl _⟩
 |some ad=>
  go_enter Tryz.func132,Tryz.ntmps132
  go_wp2_with (at_builtin;refine af8 amf rfl _ _ rfl (World.ownsRow_made w #[] 0 (Nat.le_refl _) (by unfold maxLen;omega) rfl) rfl rfl (Rd.kp hr ((Kp.refl _).alloc _)) (ajF xs) (by rw[Nat.zero_add];exact hr.room) (by simp) ?_;intro v' w1 ho hg _)
  go_ret
  have ho':Ow jD 77 w1 w.heap.size v' xs:=by
   unfold Ow
   rw[Nat.zero_add,List.nil_append]at ho
   exact ho
  obtain⟨A',c',rfl,_⟩:=ho'.sl
  exact⟨A',c',rfl,ho',((Kp.refl w).alloc _).grown hg (fun k hk=>by simp[Value.ownBlock]at hk;omega)⟩
def nP(x:Nat×Nat):List Value:=[.int .i64 x.1,.int .i64 x.2]
def qL:jR (Nat×Nat):=⟨nP,2,16,fun _=>rfl⟩
def aw(d:Dg)(back:Bool)(J:Nat):List (Nat×Nat):=(List.range (2*d.ae.length+1)).map fun a:Nat=>lastP d (a:Int) back J
def dZ(d:Dg)(back:Bool)(J:Nat):List Int:=(List.range (2*d.ae.length+1)).map fun a:Nat=>((cZ d (a:Int) back J:Nat):Int)
theorem D5(d:Dg)(a:Int)(back:Bool)(J:Nat):lastP d a back (J+1)=if fE d a back J=true then(J/4,J%4)else lastP d a back J:=rfl
theorem fK(d:Dg)(back:Bool)(J:Nat):(aw d back J).length=2*d.ae.length+1:=by simp[aw]
theorem mV(d:Dg)(back:Bool)(J:Nat):(dZ d back J).length=2*d.ae.length+1:=by simp[dZ]
theorem qj{d:Dg}{back:Bool}{J a:Nat}(h:a<2*d.ae.length+1):ga (aw d back J) a=lastP d (a:Int) back J:=by
 rw[fJ (by rw[fK];exact h)];simp[aw]
theorem mU{d:Dg}{back:Bool}{J a:Nat}(h:a<2*d.ae.length+1):gi (dZ d back J) a=(cZ d (a:Int) back J:Nat):=by
 rw[F5 (by rw[mV];exact h)];simp[dZ]
theorem aaC(d:Dg)(back:Bool):aw d back 0=List.replicate (2*d.ae.length+1) (0,0):=by
 simp only[aw,lastP,List.map_const',List.length_range]
theorem aaX(d:Dg)(back:Bool):dZ d back 0=List.replicate (2*d.ae.length+1) 0:=by
 simp[dZ,cZ,List.map_const']
theorem abh{d:Dg}{a J:Nat}{back:Bool}(h:eW d J=a)(a':Nat):fE d (a':Int) back J=(decide (a'=a)&&(cH d (J/4) (J%4)!=back)):=by
 unfold fE
 have h1:bt d (J/4) (J%4)=(a:Int):=h
 rw[h1]
 congr 1
 simp only[decide_eq_decide]
 omega
theorem aa4{d:Dg}{back:Bool}{J a:Nat}(h:eW d J=a)(he:cH d (J/4) (J%4)≠back):aw d back (J+1)=(aw d back J).set a (J/4,J%4):=by
 apply xu
 ·rw[List.length_set,fK,fK]
 ·intro i hi
  rw[fK]at hi
  have e:=abh (back:=back) h i
  by_cases ha:a<(aw d back J).length
  ·rw[dV _ _ _ _ ha,qj hi,qj hi,D5,e]
   by_cases hi':a=i
   ·subst hi';simp[he]
   ·have:¬i=a:=fun h=>hi' h.symm
    simp[hi',this]
  ·rw[List.set_eq_of_length_le (by omega),qj hi,qj hi]
   rw[fK]at ha
   rw[D5,e]
   have:¬i=a:=by omega
   simp[this]
theorem aaD{d:Dg}{back:Bool}{J:Nat}(he:cH d (J/4) (J%4)=back):aw d back (J+1)=aw d back J:=by
 apply xu
 ·rw[fK,fK]
 ·intro i hi
  rw[fK]at hi
  rw[qj hi,qj hi,D5]
  unfold fE
  simp[he]
theorem abl{d:Dg}{back:Bool}{J a:Nat}(h:eW d J=a)(he:cH d (J/4) (J%4)≠back):dZ d back (J+1)=(dZ d back J).set a (gi (dZ d back J) a+1):=by
 apply aci
 ·rw[List.length_set,mV,mV]
 ·intro i hi
  rw[mV]at hi
  have e:=abh (back:=back) h i
  by_cases ha:a<(dZ d back J).length
  ·rw[ajx _ _ _ _ ha,mU hi,mU hi,uj,e]
   by_cases hi':a=i
   ·subst hi';rw[mU hi];simp[he]
   ·have:¬i=a:=fun h=>hi' h.symm
    simp[hi',this]
  ·rw[List.set_eq_of_length_le (by omega),mU hi,mU hi,uj,e]
   rw[mV]at ha
   have:¬i=a:=by omega
   simp[this]
theorem aaY{d:Dg}{back:Bool}{J:Nat}(he:cH d (J/4) (J%4)=back):dZ d back (J+1)=dZ d back J:=by
 apply aci
 ·rw[mV,mV]
 ·intro i hi
  rw[mV]at hi
  rw[mU hi,mU hi,uj]
  unfold fE
  simp[he]
end Go.Proofs.YthppkofceancjaaGreat
namespace Go.Proofs.YthppkofceancjaaGreat
open Go.ChangeShapes Go.WideShapes Go.ChangeAt Go.RowKit
theorem ame:zF Tryz.prog 68 190 2 16 (.agg #[.int .i64 0,.int .i64 0]):=⟨lT,by kernel_rfl,rfl,by omega,by omega⟩
def Sh(d:Dg)(w0 w:World)(p:Value)(ti tu:List (Nat×Nat)):Prop:=
 ∃g A c gi go,p=.pointer (some ⟨g,0,none⟩)/\
  bB w g 70 #[.slice A d.ae.length c,.int .i64 d.loops,.slice (some ⟨gi,0,none⟩) (2*d.ae.length+1) (2*d.ae.length+1),.slice (some ⟨go,0,none⟩) (2*d.ae.length+1) (2*d.ae.length+1)]/\
  gi≠go/\w0.heap.size<g/\
  Ow jD 77 w (w0.heap.size+1) (.slice A d.ae.length c) d.ae/\
  Ow qL 190 w (w0.heap.size+1) (.slice (some ⟨gi,0,none⟩) (2*d.ae.length+1) (2*d.ae.length+1)) ti/\
  Ow qL 190 w (w0.heap.size+1) (.slice (some ⟨go,0,none⟩) (2*d.ae.length+1) (2*d.ae.length+1)) tu
theorem Sh.kp{d:Dg}{w0 w w':World}{p:Value}{ti tu:List (Nat×Nat)}(h:Sh d w0 w p ti tu)(hk:Kp w w'):Sh d w0 w' p ti tu:=by
 obtain⟨g,A,c,gi,go,r1,r2,r3,r4,r5,r6,r7⟩:=h
 exact⟨g,A,c,gi,go,r1,r2.kp hk,r3,r4,r5.kp hk,r6.kp hk,r7.kp hk⟩
def Bs(d:Dg)(w0 w:World)(p ci co:Value)(J:Nat):Prop:=
 Sh d w0 w p (aw d false J) (aw d true J)/\∃ga gb,ci=.slice (some ⟨ga,0,none⟩) (2*d.ae.length+1) (2*d.ae.length+1)/\co=.slice (some ⟨gb,0,none⟩) (2*d.ae.length+1) (2*d.ae.length+1)/\ga≠gb/\
  ei w (w0.heap.size+1) (.slice (some ⟨ga,0,none⟩) (2*d.ae.length+1) (2*d.ae.length+1)) (dZ d false J)/\ei w (w0.heap.size+1) (.slice (some ⟨gb,0,none⟩) (2*d.ae.length+1) (2*d.ae.length+1)) (dZ d true J)
structure Bq(d:Dg)(b0 g:Nat)(A:Option Addr)(c gi go ga gb:Nat)(w:World)(J:Nat):Prop where
 sh:bB w g 70 #[.slice A d.ae.length c,.int .i64 d.loops,.slice (some ⟨gi,0,none⟩) (2*d.ae.length+1) (2*d.ae.length+1),.slice (some ⟨go,0,none⟩) (2*d.ae.length+1) (2*d.ae.length+1)]
 cr:Ow jD 77 w b0 (.slice A d.ae.length c) d.ae
 ti:Ow qL 190 w b0 (.slice (some ⟨gi,0,none⟩) (2*d.ae.length+1) (2*d.ae.length+1)) (aw d false J)
 tu:Ow qL 190 w b0 (.slice (some ⟨go,0,none⟩) (2*d.ae.length+1) (2*d.ae.length+1)) (aw d true J)
 ci:ei w b0 (.slice (some ⟨ga,0,none⟩) (2*d.ae.length+1) (2*d.ae.length+1)) (dZ d false J)
 co:ei w b0 (.slice (some ⟨gb,0,none⟩) (2*d.ae.length+1) (2*d.ae.length+1)) (dZ d true J)
 n1:gi≠go
 n2:ga≠gb
 lt:b0<=g
section
variable {d : Dg} {b0 g c gi go ga gb J : Nat} {A : Option Addr} {w w' : World}
theorem Bq.kp(h:Bq d b0 g A c gi go ga gb w J)(hk:Kp w w'):Bq d b0 g A c gi go ga gb w' J:=
 ⟨h.sh.kp hk,h.cr.kp hk,h.ti.kp hk,h.tu.kp hk,h.ci.kp hk,h.co.kp hk,h.n1,h.n2,h.lt⟩
theorem ke{w:World}{b:Nat}{v:Value}{xs:List Int}(h:ei w b v xs):Ow yq 3 w b v xs:=by
 unfold Ow
 rw[abU]
 exact h
theorem ei.kept{w w':World}{b:Nat}{v:Value}{xs:List Int}{row:Option Nat}(h:ei w b v xs)(hg:Gr w w' row)(hne:v.ownBlock=none\/v.ownBlock≠row):ei w' b v xs:=World.ownsRow.kept h hg hne
theorem qC{w:World}{α:Type}{C:jR α}{E t:TypeId}{b g:Nat}{v:Value}{xs:List α}{cs:Array Value}(h:Ow C E w b v xs)(h':bB w g t cs)(hne:E≠t):some g≠v.ownBlock:=by
 rcases h.AB h' hne with h|h
 ·rw[h];simp
 ·exact fun e=>h e.symm
theorem Bq.akO(h:Bq d b0 g A c gi go ga gb w J){a:Nat}(ha:a<2*d.ae.length+1)(hj:eW d J=a)(he:cH d (J/4) (J%4)=true):
  Bq d b0 g A c gi go ga gb (((w.setCell ⟨gi,a*2,none⟩ (.int .i64 ((J/4:Nat):Int))).setCell ⟨gi,a*2+1,none⟩ (.int .i64 ((J%4:Nat):Int))).setCell ⟨ga,a,none⟩ (.int .i64 (Go.Proofs.YthppkofceancjaaGreat.gi (dZ d false J) a+1))) (J+1):=by
 have ht:aw d false (J+1)=(aw d false J).set a (J/4,J%4):=aa4 hj (by simp[he])
 have hu:aw d true (J+1)=aw d true J:=aaD he
 have hc:dZ d false (J+1)=(dZ d false J).set a (Go.Proofs.YthppkofceancjaaGreat.gi (dZ d false J) a+1):=abl hj (by simp[he])
 have ho:dZ d true (J+1)=dZ d true J:=aaY he
 have s1:=h.ti.adi rfl (i:=a) (by rw[fK];exact ha) (.int .i64 ((J/4:Nat):Int)) (.int .i64 ((J%4:Nat):Int)) (J/4,J%4) rfl
 have g1:=abQ (w:=w) (g:=gi) (i:=a*2) (j:=a*2+1) (.int .i64 ((J/4:Nat):Int)) (.int .i64 ((J%4:Nat):Int))
 have c1:=h.ci.kept g1 (ke h.ci|>.j0 h.ti (by decide))
 have g2:=abR (w:=(w.setCell ⟨gi,a*2,none⟩ (.int .i64 ((J/4:Nat):Int))).setCell ⟨gi,a*2+1,none⟩ (.int .i64 ((J%4:Nat):Int))) (g:=ga) (i:=a) (.int .i64 (Go.Proofs.YthppkofceancjaaGreat.gi (dZ d false J) a+1))
 have k1:=h.sh.gr g1 (qC h.ti h.sh (by decide))
 have q1:=h.cr.kept g1 (h.cr.j0 h.ti (by decide))
 have u1:=h.tu.kept g1 (.inr (by simpa[Value.ownBlock]using h.n1.symm))
 have o1:=h.co.kept g1 (ke h.co|>.j0 h.ti (by decide))
 refine⟨k1.gr g2 (qC (ke c1) k1 (by decide)),q1.kept g2 (q1.j0 (ke c1) (by decide)),?_,?_,?_,?_,h.n1,h.n2,h.lt⟩
 ·rw[ht];exact s1.kept g2 (s1.j0 (ke c1) (by decide))
 ·rw[hu];exact u1.kept g2 (u1.j0 (ke c1) (by decide))
 ·rw[hc];exact c1.adh a _
 ·rw[ho];exact o1.kept g2 (.inr (by simpa[Value.ownBlock]using h.n2.symm))
theorem Bq.aju(h:Bq d b0 g A c gi go ga gb w J){a:Nat}(ha:a<2*d.ae.length+1)(hj:eW d J=a)(he:cH d (J/4) (J%4)=false):
  Bq d b0 g A c gi go ga gb (((w.setCell ⟨go,a*2,none⟩ (.int .i64 ((J/4:Nat):Int))).setCell ⟨go,a*2+1,none⟩ (.int .i64 ((J%4:Nat):Int))).setCell ⟨gb,a,none⟩ (.int .i64 (Go.Proofs.YthppkofceancjaaGreat.gi (dZ d true J) a+1))) (J+1):=by
 have ht:aw d true (J+1)=(aw d true J).set a (J/4,J%4):=aa4 hj (by simp[he])
 have hu:aw d false (J+1)=aw d false J:=aaD he
 have hc:dZ d true (J+1)=(dZ d true J).set a (Go.Proofs.YthppkofceancjaaGreat.gi (dZ d true J) a+1):=abl hj (by simp[he])
 have ho:dZ d false (J+1)=dZ d false J:=aaY he
 have s1:=h.tu.adi rfl (i:=a) (by rw[fK];exact ha) (.int .i64 ((J/4:Nat):Int)) (.int .i64 ((J%4:Nat):Int)) (J/4,J%4) rfl
 have g1:=abQ (w:=w) (g:=go) (i:=a*2) (j:=a*2+1) (.int .i64 ((J/4:Nat):Int)) (.int .i64 ((J%4:Nat):Int))
 have c1:=h.co.kept g1 (ke h.co|>.j0 h.tu (by decide))
 have g2:=abR (w:=(w.setCell ⟨go,a*2,none⟩ (.int .i64 ((J/4:Nat):Int))).setCell ⟨go,a*2+1,none⟩ (.int .i64 ((J%4:Nat):Int))) (g:=gb) (i:=a) (.int .i64 (Go.Proofs.YthppkofceancjaaGreat.gi (dZ d true J) a+1))
 have k1:=h.sh.gr g1 (qC h.tu h.sh (by decide))
 have q1:=h.cr.kept g1 (h.cr.j0 h.tu (by decide))
 have u1:=h.ti.kept g1 (.inr (by simpa[Value.ownBlock]using h.n1))
 have o1:=h.ci.kept g1 (ke h.ci|>.j0 h.tu (by decide))
 refine⟨k1.gr g2 (qC (ke c1) k1 (by decide)),q1.kept g2 (q1.j0 (ke c1) (by decide)),?_,?_,?_,?_,h.n1,h.n2,h.lt⟩
 ·rw[hu];exact u1.kept g2 (u1.j0 (ke c1) (by decide))
 ·rw[ht];exact s1.kept g2 (s1.j0 (ke c1) (by decide))
 ·rw[ho];exact o1.kept g2 (.inr (by simpa[Value.ownBlock]using h.n2))
 ·rw[hc];exact c1.adh a _
theorem Bq.amn(h:Bq d b0 g A c gi go ga gb w J){a:Nat}(ha:a<2*d.ae.length+1):∃x y X:Int,w.cell? ⟨gi,a*2,none⟩=some (.int .i64 x)/\w.cell? ⟨gi,a*2+1,none⟩=some (.int .i64 y)/\w.cell? ⟨ga,a,none⟩=some (.int .i64 X)/\
  w.frozen? ⟨gi,a*2,none⟩=false/\w.frozen? ⟨gi,a*2+1,none⟩=false/\w.frozen? ⟨ga,a,none⟩=false/\gi≠ga/\ga≠gi/\Hid (Go.Proofs.YthppkofceancjaaGreat.gi (dZ d false J) a=X)/\0<=X/\X<=J:=by
 have hl:a<(aw d false J).length:=by rw[fK];exact ha
 have hne:gi≠ga:=by
  rcases h.ti.j0 (ke h.ci) (by decide)with h|h
  ·simp[Value.ownBlock]at h
  ·simpa[Value.ownBlock]using h
 have hx:=uH d a false J
 exact⟨_,_,_,h.ti.cell hl (j:=0) (by decide) rfl,h.ti.cell hl (j:=1) (by decide) rfl,h.ci.cell (by rw[mV];exact ha),h.ti.free _,h.ti.free _,h.ci.free _,hne,hne.symm,rfl,
  by rw[mU ha];omega,by rw[mU ha];omega⟩
theorem Bq.akf(h:Bq d b0 g A c gi go ga gb w J){a:Nat}(ha:a<2*d.ae.length+1):∃x y X:Int,w.cell? ⟨go,a*2,none⟩=some (.int .i64 x)/\w.cell? ⟨go,a*2+1,none⟩=some (.int .i64 y)/\w.cell? ⟨gb,a,none⟩=some (.int .i64 X)/\
  w.frozen? ⟨go,a*2,none⟩=false/\w.frozen? ⟨go,a*2+1,none⟩=false/\w.frozen? ⟨gb,a,none⟩=false/\go≠gb/\gb≠go/\Hid (Go.Proofs.YthppkofceancjaaGreat.gi (dZ d true J) a=X)/\0<=X/\X<=J:=by
 have hl:a<(aw d true J).length:=by rw[fK];exact ha
 have hne:go≠gb:=by
  rcases h.tu.j0 (ke h.co) (by decide)with h|h
  ·simp[Value.ownBlock]at h
  ·simpa[Value.ownBlock]using h
 have hx:=uH d a true J
 exact⟨_,_,_,h.tu.cell hl (j:=0) (by decide) rfl,h.tu.cell hl (j:=1) (by decide) rfl,h.co.cell (by rw[mV];exact ha),h.tu.free _,h.tu.free _,h.co.free _,hne,hne.symm,rfl,
  by rw[mU ha];omega,by rw[mU ha];omega⟩
end
def C6(w:World)(b0:Nat)(v:Value)(d:Dg):Prop:=
 ∃g A c gi go,v=.pointer (some ⟨g,0,none⟩)/\b0<=g/\gi≠go/\
  bB w g 70 #[.slice A d.ae.length c,.int .i64 d.loops,.slice (some ⟨gi,0,none⟩) (2*d.ae.length+1) (2*d.ae.length+1),.slice (some ⟨go,0,none⟩) (2*d.ae.length+1) (2*d.ae.length+1)]/\
  Ow jD 77 w b0 (.slice A d.ae.length c) d.ae/\
  Ow qL 190 w b0 (.slice (some ⟨gi,0,none⟩) (2*d.ae.length+1) (2*d.ae.length+1)) (aw d false (4*d.ae.length))/\
  Ow qL 190 w b0 (.slice (some ⟨go,0,none⟩) (2*d.ae.length+1) (2*d.ae.length+1)) (aw d true (4*d.ae.length))
theorem Bq.amm{d:Dg}{b0 g c gi go ga gb:Nat}{A:Option Addr}{w:World}(h:Bq d b0 g A c gi go ga gb w (4*d.ae.length)):C6 w b0 (.pointer (some ⟨g,0,none⟩)) d:=
 ⟨g,A,c,gi,go,rfl,h.lt,h.n1,h.sh,h.cr,h.ti,h.tu⟩
def ahZ(w:World)(e:Ending)(w':World):Prop:=e=.returned (.tuple #[.pointer none,.bool false])/\Kp w w'
def ajI(d:Dg)(w:World)(e:Ending)(w':World):Prop:=∃v,e=.returned (.tuple #[v,.bool true])/\Kp w w'/\C6 w' w.heap.size v d
def aaZ(b:Bool)(d:Dg)(w:World)(e:Ending)(w':World):Prop:=(b=false/\ahZ w e w')\/(b=true/\ajI d w e w')
set_option maxRecDepth 100000 in
set_option maxHeartbeats 4000000 in
theorem ag6(v:Value)(d:Dg)(w:World)(hd:kF w w.heap.size v d)(hn:d.ae.length<=16):
  Calls Tryz.prog 83 #[v] w (aaZ (aX d) d w):=by
 obtain⟨A,cap,rfl,hcap,hr⟩:=hd
 have hm:=fun W=>abM ame (2*d.ae.length+1) (2*(d.ae.length:Int)+1) (by omega) (by omega) W
 have hm2:=fun W=>abM aka (2*d.ae.length+1) (2*(d.ae.length:Int)+1) (by omega) (by omega) W
 generalize hZ:madeCells (Value.agg #[.int .i64 0,.int .i64 0]).cells ((2*d.ae.length+1)*2)=Z at*
 generalize hY:madeCells (Value.int .i64 0).cells ((2*d.ae.length+1)*1)=Y at*
 have HZ:=Lib.hid hZ
 have HY:=Lib.hid hY
 clear hZ hY
 go_enter Tryz.func83,Tryz.ntmps83
 have W0:IntKind.i64.wrap (2*(d.ae.length:Int))=2*(d.ae.length:Int):=IntWalk.i64_in _ (by omega)
 have W1:IntKind.i64.wrap (2*(d.ae.length:Int)+1)=2*(d.ae.length:Int)+1:=IntWalk.i64_in _ (by omega)
 have E0:Hid ((w.alloc (.cells #[.slice A d.ae.length cap,.int .i64 d.loops] 24)).cell? ⟨w.heap.size,0,none⟩=some (.slice A d.ae.length cap)):=(bB.new _ _ _).cell 0 rfl
 have E1:Hid ((w.alloc (.cells #[.slice A d.ae.length cap,.int .i64 d.loops] 24)).cell? ⟨w.heap.size,1,none⟩=some (.int .i64 d.loops)):=(bB.new _ _ _).cell 1 rfl
 go_upto_region 2 with(fail)
 go_cut [5] (fun p wx=>Kp (w.alloc (.cells #[.slice A d.ae.length cap,.int .i64 d.loops] 24)) wx/\Sh d w wx p (aw d false 0) (aw d true 0))
 case first=>
  go_region_held3 (fun W=>W.cell? ⟨w.heap.size,0,none⟩=some (.slice A d.ae.length cap)/\W.cell? ⟨w.heap.size,1,none⟩=some (.int .i64 d.loops)) (go_keep) (first
   |(go_at_call 132;refine(ahR A cap d.ae _ (hr.kp (by repeat(with_reducible (first|exact Kp.refl _|refine Kp.alloc ?_ _|refine Kp.drew ?_))))).mono ?_;rintro e w1 ⟨A1,c1,rfl,zg,hk1⟩;have hq:Kp (w.alloc (.cells #[.slice A d.ae.length cap,.int .i64 d.loops] 24)) w1:=Kp.trans (by repeat(with_reducible (first|exact Kp.refl _|refine Kp.alloc ?_ _|refine Kp.drew ?_))) hk1;have q0:=hq.c E0.out;have q1:=hq.c E1.out;obtain⟨l0,l1,l2,l3,l4⟩:=vR hq.alt))
  all_goals
   have lk:=hk1.size
   simp at lk
   go_wp2_with fail
   go_meet
   refine⟨?_,_,A1,c1,_,_,rfl,bB.new' _ _ _ (by simp),?_,?_,?_,?_,?_⟩
   ·repeat(with_reducible (first|exact Kp.refl _|refine Kp.alloc ?_ _|refine Kp.drew ?_|refine Kp.trans ?_ hk1))
   ·omega
   ·omega
   ·refine(Ow.base (zg.kp ?_) (by simp));repeat(with_reducible (first|exact Kp.refl _|refine Kp.alloc ?_ _|refine Kp.drew ?_))
   ·rw[aaC]
    refine Ow.made (C:=qL) (z:=.agg #[.int .i64 0,.int .i64 0]) rfl ?_ (by first|omega|(simp;done)|(simp;omega)) (by unfold maxLen;omega)
    change bB _ _ _ (madeCells (Value.agg #[.int .i64 0,.int .i64 0]).cells ((2*d.ae.length+1)*2))
    rw[HZ.out]
    repeat(first|((with_reducible refine bB.new' _ _ _ ?_);(simp;done))|with_reducible refine bB.alloc ?_ _|with_reducible refine bB.drew ?_|with_reducible refine bB.kp ?_ hk1)
   ·rw[aaC]
    refine Ow.made (C:=qL) (z:=.agg #[.int .i64 0,.int .i64 0]) rfl ?_ (by first|omega|(simp;done)|(simp;omega)) (by unfold maxLen;omega)
    change bB _ _ _ (madeCells (Value.agg #[.int .i64 0,.int .i64 0]).cells ((2*d.ae.length+1)*2))
    rw[HZ.out]
    repeat(first|((with_reducible refine bB.new' _ _ _ ?_);(simp;done))|with_reducible refine bB.alloc ?_ _|with_reducible refine bB.drew ?_|with_reducible refine bB.kp ?_ hk1)
 case rest=>
  obtain⟨hkc,hS⟩:=hcut
  have hr':=Lib.hid hr
  clear hm hr E0 E1
  go_upto_region 3 with(fail)
  go_cut [6,7] (fun ci co wx=>Kp (w.alloc (.cells #[.slice A d.ae.length cap,.int .i64 d.loops] 24)) wx/\Bs d w wx u5 ci co 0)
  case first=>
   go_region
   all_goals
    have lk:=hkc.size
    simp at lk
    go_wp2_with fail
    go_meet
    refine⟨?_,?_,_,_,rfl,rfl,?_,?_,?_⟩
    ·repeat(with_reducible (first|exact Kp.refl _|refine Kp.alloc ?_ _|refine Kp.drew ?_|refine Kp.trans ?_ hkc))
    ·refine hS.kp ?_
     repeat(with_reducible (first|exact Kp.refl _|refine Kp.alloc ?_ _|refine Kp.drew ?_))
    ·omega
    ·rw[aaX]
     refine ei.acC (Ow.made (C:=yq) (z:=.int .i64 0) rfl ?_ (by first|omega|(simp;done)|(simp;omega)) (by unfold maxLen;omega))
     change bB _ _ _ (madeCells (Value.int .i64 0).cells ((2*d.ae.length+1)*1))
     rw[HY.out]
     repeat(first|((with_reducible refine bB.new' _ _ _ ?_);(simp;done))|with_reducible refine bB.alloc ?_ _|with_reducible refine bB.drew ?_)
    ·rw[aaX]
     refine ei.acC (Ow.made (C:=yq) (z:=.int .i64 0) rfl ?_ (by first|omega|(simp;done)|(simp;omega)) (by unfold maxLen;omega))
     change bB _ _ _ (madeCells (Value.int .i64 0).cells ((2*d.ae.length+1)*1))
     rw[HY.out]
     repeat(first|((with_reducible refine bB.new' _ _ _ ?_);(simp;done))|with_reducible refine bB.alloc ?_ _|with_reducible refine bB.drew ?_)
  case rest=>
   clear hkc hS hm2 W0 W1
   obtain⟨hkc,⟨g,A1,c1,gi,go,rfl,hb,n1,hl,o1,o2,o3⟩,ga,gb,rfl,rfl,n2,o4,o5⟩:=hcut
   have hQ:Bq d (w.heap.size+1) g A1 c1 gi go ga gb wc 0:=⟨hb,o1,o2,o3,o4,o5,n1,n2,by omega⟩
   clear hb n1 n2 o1 o2 o3 o4 o5
   have hkx:Kp w wc:=hkc.al
   have hx:=(bB.new w 24 #[.slice A d.ae.length cap,.int .i64 d.loops]).kp hkc
   obtain⟨e0,e1,e2,e3⟩:=hx.two
   clear HZ HY
   go_wp2_with fail
   go_loopw [43] (fun i wr=>∃n:Nat,n<=d.ae.length/\i=.int .i64 n/\Kp w wr/\Bq d (w.heap.size+1) g A1 c1 gi go ga gb wr (4*n)/\Hid (∀j,j<4*n->1<=eW d j/\eW d j<=2*(d.ae.length:Int))) (fun i _=>d.ae.length-(intOf i).toNat)
   case atStart=>exact⟨0,Nat.zero_le _,rfl,hkx,hQ,fun j hj=>by omega⟩
   case round=>
    clear hQ hkx e0 e1 e2 e3 hx hkc
    obtain⟨n,hn',rfl,hk,hQ,hrg⟩:=hrel
    by_cases hlt:n<d.ae.length
    ·obtain⟨b,off,rfl,hb1,k0,k1,k2,k3,k4⟩:=yo (hr'.out.kp hk) hlt
     obtain⟨wo,rfl⟩:∃wo:World,wo=wr:=⟨_,rfl⟩
     obtain⟨l0,l1,l2,l3,l4⟩:=vR hb1
     have hx:=bB.new wo 77 #[.int .i64 (Go.Proofs.YthppkofceancjaaGreat.ga d.ae n).a,.int .i64 (Go.Proofs.YthppkofceancjaaGreat.ga d.ae n).b,.int .i64 (Go.Proofs.YthppkofceancjaaGreat.ga d.ae n).c,.int .i64 (Go.Proofs.YthppkofceancjaaGreat.ga d.ae n).d,.bool (Go.Proofs.YthppkofceancjaaGreat.ga d.ae n).plus]
     have hx0:∀k,k<4->eW d (4*n+k)=cD (Go.Proofs.YthppkofceancjaaGreat.ga d.ae n) k/\cH d ((4*n+k)/4) ((4*n+k)%4)=l7 (Go.Proofs.YthppkofceancjaaGreat.ga d.ae n) k/\(4*n+k)/4=n/\(4*n+k)%4=k:=fun k hk=>by
      have h1:(4*n+k)/4=n:=by omega
      have h2:(4*n+k)%4=k:=by omega
      unfold eW bt cH
      rw[h1,h2]
      exact⟨rfl,rfl,rfl,rfl⟩
     have HX:=Lib.hid hx0
     clear hx0
     generalize Go.Proofs.YthppkofceancjaaGreat.ga d.ae n=x at*
     go_wp2_with fail
     go_loopw [48] (fun i wr=>∃m:Nat,m<=4/\i=.int .i64 m/\Kp w wr/\Bq d (w.heap.size+1) g A1 c1 gi go ga gb wr (4*n+m)/\Hid (∀j,j<4*n+m->1<=eW d j/\eW d j<=2*(d.ae.length:Int))/\
      bB wr wo.heap.size 77 #[.int .i64 x.a,.int .i64 x.b,.int .i64 x.c,.int .i64 x.d,.bool x.plus]) (fun i _=>4-(intOf i).toNat)
     case atStart=>exact⟨0,Nat.zero_le _,rfl,hk.alloc _,hQ.kp ((Kp.refl _).alloc _),hrg.out,hx⟩
     case round=>
      clear hQ hk hrg hx k0 k1 k2 k3 k4 l0 l1 l2 l3 l4 hb1
      obtain⟨m,hm,rfl,hk,hQ,hrg,hx⟩:=hrel
      by_cases iO:m<4
      ·obtain⟨k0,k1,k2,k3,k4⟩:=hx.cr
       obtain⟨l0,l1,l2,l3,l4⟩:=vR hx.lt
       obtain⟨hj,hen,hq1,hq2⟩:=HX.out m iO
       by_cases hlo:1<=cD x m
       ·by_cases hhi:cD x m<=2*(d.ae.length:Int)
        ·obtain⟨a,ha⟩:=Int.eq_ofNat_of_zero_le (show 0<=cD x m by omega)
         rw[ha]at hlo hhi hj
         have ha':=Lib.hid ha
         clear ha
         cases he:l7 x m
         ·rw[he]at hen
          have he':=Lib.hid he
          have hN:=fun w' (h:Bq d (w.heap.size+1) g A1 c1 gi go ga gb w' (4*n+m))=>h.aju (a:=a) (by omega) hj hen
          rw[hq1,hq2]at hN
          have HN:=Lib.hid hN
          have hj':=Lib.hid hj
          clear hN hj hen hq1 hq2 he
          go_wp2_with fail
          refine(Av x m _ iO).mono ?_;rintro e w1 ⟨rfl,hk1⟩
          rw[ha'.out]
          obtain⟨cc,cf⟩:=hk1.cf (n:=wr.heap.size) rfl
          go_wp2_with fail
          refine(aaW x m _ iO).mono ?_;rintro e w2 ⟨rfl,hk2⟩
          rw[he'.out]
          clear cc cf
          have kQ:=(hQ.kp hk1).kp hk2
          have hx2:=(hx.kp hk1).kp hk2
          have b1:wo.heap.size≠go:=fun e=>qC kQ.tu hx2 (by decide) (by rw[e];rfl)
          have b2:wo.heap.size≠gb:=fun e=>qC (ke kQ.co) hx2 (by decide) (by rw[e];rfl)
          have b3:=(kQ.tu.lt go rfl).1
          have b4:=(kQ.co.lt gb rfl).1
          obtain⟨s0,s1,s2,s3⟩:=kQ.sh.four
          obtain⟨x0,y0,X,t0,t1,t2,t3,t4,t5,t6,t7,hX,X0,X1⟩:=kQ.akf (a:=a) (by omega)
          go_wp2_with fail
          go_roundw
          case rel=>
           have hq:=HN.out w2 kQ
           rw[hX.out]at hq
           exact⟨m+1,by omega,by go_num,((((hk.trans hk1).trans hk2).setCell (p:=⟨go,a*2,none⟩) (by simp;omega) _).setCell (p:=⟨go,a*2+1,none⟩) (by simp;omega) _).setCell (p:=⟨gb,a,none⟩) (by simp;omega) _,hq,
            fun j h=>by
             rcases Nat.lt_or_ge j (4*n+m)with h1|h1
             ·exact hrg.out j h1
             ·obtain rfl:j=4*n+m:=by omega
              rw[hj'.out];omega,
            ((hx2.far (p:=⟨go,a*2,none⟩) b1 _).far (p:=⟨go,a*2+1,none⟩) b1 _).far (p:=⟨gb,a,none⟩) b2 _⟩
          case measure=>simp[intOf]<;>omega
         ·rw[he]at hen
          have he':=Lib.hid he
          have hN:=fun w' (h:Bq d (w.heap.size+1) g A1 c1 gi go ga gb w' (4*n+m))=>h.akO (a:=a) (by omega) hj hen
          rw[hq1,hq2]at hN
          have HN:=Lib.hid hN
          have hj':=Lib.hid hj
          clear hN hj hen hq1 hq2 he
          go_wp2_with fail
          refine(Av x m _ iO).mono ?_;rintro e w1 ⟨rfl,hk1⟩
          rw[ha'.out]
          obtain⟨cc,cf⟩:=hk1.cf (n:=wr.heap.size) rfl
          go_wp2_with fail
          refine(aaW x m _ iO).mono ?_;rintro e w2 ⟨rfl,hk2⟩
          rw[he'.out]
          clear cc cf
          have kQ:=(hQ.kp hk1).kp hk2
          have hx2:=(hx.kp hk1).kp hk2
          have b1:wo.heap.size≠gi:=fun e=>qC kQ.ti hx2 (by decide) (by rw[e];rfl)
          have b2:wo.heap.size≠ga:=fun e=>qC (ke kQ.ci) hx2 (by decide) (by rw[e];rfl)
          have b3:=(kQ.ti.lt gi rfl).1
          have b4:=(kQ.ci.lt ga rfl).1
          obtain⟨s0,s1,s2,s3⟩:=kQ.sh.four
          obtain⟨x0,y0,X,t0,t1,t2,t3,t4,t5,t6,t7,hX,X0,X1⟩:=kQ.amn (a:=a) (by omega)
          go_wp2_with fail
          go_roundw
          case rel=>
           have hq:=HN.out w2 kQ
           rw[hX.out]at hq
           exact⟨m+1,by omega,by go_num,((((hk.trans hk1).trans hk2).setCell (p:=⟨gi,a*2,none⟩) (by simp;omega) _).setCell (p:=⟨gi,a*2+1,none⟩) (by simp;omega) _).setCell (p:=⟨ga,a,none⟩) (by simp;omega) _,hq,
            fun j h=>by
             rcases Nat.lt_or_ge j (4*n+m)with h1|h1
             ·exact hrg.out j h1
             ·obtain rfl:j=4*n+m:=by omega
              rw[hj'.out];omega,
            ((hx2.far (p:=⟨gi,a*2,none⟩) b1 _).far (p:=⟨gi,a*2+1,none⟩) b1 _).far (p:=⟨ga,a,none⟩) b2 _⟩
          case measure=>simp[intOf]<;>omega
        ·have hno:=Lib.hid (abp (d:=d) (j:=4*n+m) (by omega) (by rw[hj];omega))
         clear hj hen hq1 hq2
         go_wp2_with fail
         refine(Av x m _ iO).mono ?_;rintro e w1 ⟨rfl,hk1⟩
         go_wp2_with fail
         go_ret2
         exact .inl ⟨hno.out,rfl,hk.trans hk1⟩
       ·have hno:=Lib.hid (abp (d:=d) (j:=4*n+m) (by omega) (by rw[hj];omega))
        clear hj hen hq1 hq2
        go_wp2_with fail
        refine(Av x m _ iO).mono ?_;rintro e w1 ⟨rfl,hk1⟩
        go_wp2_with fail
        go_ret2
        exact .inl ⟨hno.out,rfl,hk.trans hk1⟩
      ·obtain rfl:m=4:=by omega
       go_wp2_with fail
       go_roundw
       case rel=>exact⟨n+1,by omega,by go_num,hk,hQ,hrg.out⟩
       case measure=>simp[intOf]<;>omega
    ·obtain rfl:n=d.ae.length:=by omega
     go_wp2_with fail
     obtain⟨wo,rfl⟩:∃wo:World,wo=wr:=⟨_,rfl⟩
     go_loop [12] (fun i=>∃a:Nat,1<=a/\a<=2*d.ae.length+1/\i=.int .i64 a/\Hid (∀a':Nat,1<=a'->a'<a->ky d a'=true)) (fun i=>2*d.ae.length+1-(intOf i).toNat)
     case atStart=>exact⟨1,by omega,by omega,rfl,fun a h1 h2=>by omega⟩
     case round=>
      obtain⟨a,ha0,ha1,rfl,hok⟩:=hrel
      by_cases jW:a<=2*d.ae.length
      ·have ca:=hQ.ci.cell (i:=a) (by rw[mV];omega)
       have cb:=hQ.co.cell (i:=a) (by rw[mV];omega)
       rw[mU (by omega)]at ca cb
       have hao:ky d a=(cZ d a false (4*d.ae.length)==1&&cZ d a true (4*d.ae.length)==1):=rfl
       generalize cZ d a false (4*d.ae.length)=X at*
       generalize cZ d a true (4*d.ae.length)=Y at*
       by_cases hX:X=1
       ·subst hX
        by_cases hY:Y=1
        ·subst hY
         have anf:Hid (ky d a=true):=hao
         clear hao
         go_wp2_with fail
         go_round
         case rel=>exact⟨a+1,by omega,by omega,by go_num,fun a' h1 h2=>by
          rcases Nat.lt_or_ge a' a with h|h
          ·exact hok.out a' h1 h
          ·obtain rfl:a'=a:=by omega
           exact anf.out⟩
         case measure=>simp[intOf]<;>omega
        ·have hno:=Lib.hid (abq ha0 jW (by rw[hao];simp[hY]))
         have t1:(((Y:Int)!=1):Bool)=true:=by simp only[bne_iff_ne,ne_eq];omega
         clear hao hY
         go_wp2_with fail
         go_ret2
         exact .inl ⟨hno.out,rfl,hk⟩
       ·have hno:=Lib.hid (abq ha0 jW (by rw[hao];simp[hX]))
        have t1:(((X:Int)!=1):Bool)=true:=by simp only[bne_iff_ne,ne_eq];omega
        clear hao hX
        go_wp2_with fail
        go_ret2
        exact .inl ⟨hno.out,rfl,hk⟩
      ·have amo:=Lib.hid (ag7 (d:=d) fun a' h1 h2=>hok.out a' h1 (by omega))
       go_wp2_with fail
       go_ret2
       obtain⟨g',A',c',O0,go',r1,r2,r3⟩:=hQ.amm
       exact .inr ⟨amo.out,_,rfl,hk,g',A',c',O0,go',r1,by omega,r3.1,r3.2.1,r3.2.2.1.base (by omega),r3.2.2.2.1.base (by omega),r3.2.2.2.2.base (by omega)⟩
theorem ahB{n:Nat}{loops:Int}(h:¬(n<=16/\0<=loops/\loops<=16/\¬(n=0/\loops=0))):16<n\/(n<=16/\loops<0)\/(n<=16/\16<loops)\/(n=0/\loops=0):=by omega
set_option maxRecDepth 100000 in
set_option maxHeartbeats 2000000 in
theorem aiq(v:Value)(d:Dg)(w:World)(hd:kF w w.heap.size v d):Calls Tryz.prog 64 #[v] w (aaZ (gW d) d w):=by
 obtain⟨A,cap,rfl,hcap,hr⟩:=hd
 have hrm:d.ae.length*40<=140737488355328:=hr.room
 by_cases h:d.ae.length<=16/\0<=d.loops/\d.loops<=16/\¬(d.ae.length=0/\d.loops=0)
 ·have hm:gW d=aX d:=by rw[aaK,decide_eq_true h,Bool.true_and]
  rw[hm]
  clear hm
  obtain⟨h1,h2,h3,h4⟩:=h
  have hb:=Lib.hid fun w' (hk:Kp w w')=>ag6 (.agg #[.slice A d.ae.length cap,.int .i64 d.loops]) d w' ⟨A,cap,rfl,hcap,hr.kp hk⟩ h1
  have t1:((((d.ae.length:Int)+d.loops)==0):Bool)=false:=by rw[beq_eq_false_iff_ne];omega
  clear h4 hr
  generalize aX d=b at*
  go_enter Tryz.func64,Tryz.ntmps64
  go_wp2_with fail
  refine(hb.out _ ((Kp.refl _).alloc _)).mono ?_
  rintro e w1 (⟨hb0,rfl,hk⟩|⟨hb1,v,rfl,hk,hs⟩)
  ·have anc:=Lib.hid hb0
   clear hb0
   go_wp2_with fail
   go_ret2
   exact .inl ⟨anc.out,rfl,hk.al⟩
  ·have anb:=Lib.hid hb1
   clear hb1
   go_wp2_with fail
   go_ret2
   obtain⟨g',A',c',O0,go',r1,r2,r3⟩:=hs
   simp at r2
   exact .inr ⟨anb.out,v,rfl,hk.al,g',A',c',O0,go',r1,by omega,r3.1,r3.2.1,r3.2.2.1.base (by simp),r3.2.2.2.1.base (by simp),r3.2.2.2.2.base (by simp)⟩
 ·rw[aaJ h]
  have hc:=ahB h
  clear h hr
  obtain⟨cs,loops⟩:=d
  dsimp only at*
  generalize cs.length=n at*
  rcases hc with hc|⟨hc,hc'⟩|⟨hc,hc'⟩|⟨rfl,rfl⟩
  all_goals
   go_enter Tryz.func64,Tryz.ntmps64
   go_wp2_with fail
   go_ret2
   exact .inl ⟨rfl,rfl,(Kp.refl _).alloc _⟩
end Go.Proofs.YthppkofceancjaaGreat
namespace Go.Proofs.YthppkofceancjaaGreat
open Go.ChangeShapes Go.WideShapes Go.ChangeAt Go.RowKit
theorem Ow.rd{α:Type}{C:jR α}{E:TypeId}{w:World}{b n c:Nat}{A:Option Addr}{xs:List α}(h:Ow C E w b (.slice A n c) xs)(hr:xs.length*C.u8<=140737488355328):Rd C w w.heap.size A xs:=by
 obtain rfl:=h.qU
 exact Sl.ES h hr
theorem C6.look{w:World}{b0:Nat}{v:Value}{d:Dg}(h:C6 w b0 v d)(hn:d.ae.length<=16):∃g A c gi go,v=.pointer (some ⟨g,0,none⟩)/\g<w.heap.size/\gi<w.heap.size/\go<w.heap.size/\
  w.cell? ⟨g,0,none⟩=some (.slice A d.ae.length c)/\w.cell? ⟨g,1,none⟩=some (.int .i64 d.loops)/\
  w.cell? ⟨g,2,none⟩=some (.slice (some ⟨gi,0,none⟩) (2*d.ae.length+1) (2*d.ae.length+1))/\w.cell? ⟨g,3,none⟩=some (.slice (some ⟨go,0,none⟩) (2*d.ae.length+1) (2*d.ae.length+1))/\
  Rd jD w w.heap.size A d.ae/\
  Hid (∀a,a<2*d.ae.length+1->w.cell? ⟨gi,a*2,none⟩=some (.int .i64 (lastP d a false (4*d.ae.length)).1)/\w.cell? ⟨gi,a*2+1,none⟩=some (.int .i64 (lastP d a false (4*d.ae.length)).2))/\
  Hid (∀a,a<2*d.ae.length+1->w.cell? ⟨go,a*2,none⟩=some (.int .i64 (lastP d a true (4*d.ae.length)).1)/\w.cell? ⟨go,a*2+1,none⟩=some (.int .i64 (lastP d a true (4*d.ae.length)).2)):=by
 obtain⟨g,A,c,gi,go,rfl,r2,r3,r4,r5,r6,r7⟩:=h
 obtain⟨s0,s1,s2,s3⟩:=r4.four
 refine⟨g,A,c,gi,go,rfl,r4.lt,(r6.lt gi rfl).2,(r7.lt go rfl).2,s0,s1,s2,s3,r5.rd (by show d.ae.length*40<=_;omega),fun a ha=>?_,fun a ha=>?_⟩
 ·have h0:=r6.cell (i:=a) (by rw[fK];exact ha) (j:=0) (by decide) rfl
  have h1:=r6.cell (i:=a) (by rw[fK];exact ha) (j:=1) (by decide) rfl
  rw[qj ha]at h0 h1
  exact⟨h0,h1⟩
 ·have h0:=r7.cell (i:=a) (by rw[fK];exact ha) (j:=0) (by decide) rfl
  have h1:=r7.cell (i:=a) (by rw[fK];exact ha) (j:=1) (by decide) rfl
  rw[qj ha]at h0 h1
  exact⟨h0,h1⟩
theorem abj{d:Dg}(h:aX d=true){a:Nat}(h0:1<=a)(h1:a<=2*d.ae.length)(back:Bool):
  (Ud d a back).1<d.ae.length/\(Ud d a back).2<4/\lastP d a back (4*d.ae.length)=Ud d a back/\bt d (Ud d a back).1 (Ud d a back).2=a/\cH d (Ud d a back).1 (Ud d a back).2=!back:=by
 have hc:cZ d a back (4*d.ae.length)=1:=by cases back<;>simp[Ej h a h0 h1]
 obtain⟨j,j1,j2,j3,j4⟩:=Ex hc
 have e:=aaN hc
 rw[j4]at e
 rw[<-e]
 dsimp only
 unfold fE at j2
 rw[Bool.and_eq_true,decide_eq_true_iff]at j2
 refine⟨by omega,by omega,by rw[j4],j2.1,?_⟩
 have:=j2.2
 cases back<;>cases hq:cH d (j/4) (j%4)<;>simp_all
end Go.Proofs.YthppkofceancjaaGreat
namespace Go.Proofs.YthppkofceancjaaGreat
open Go.ChangeShapes Go.WideShapes Go.ChangeAt Go.RowKit
def bp:Cd (Nat×Nat):=⟨nP,2,16,190,(0,0),fun _=>rfl,by
 intro x u hu
 simp[nP]at hu
 rcases hu with rfl|rfl<;>rfl⟩
section
variable {w w' : World} {M : Hp} {X : Fr} {H H' : List Rs}
theorem Kp.like(h:Kp w w'):gj w w':=⟨h.os,h.tape,h.output,h.size⟩
theorem SH.old(S:SH w M X H)(h:Kp w w'):SH w' M X H:=S.kp h.like fun b hb=>h.block b hb
theorem SH.Bj{r:Rs}(S:SH w M X [])(S':SH w' M X H')(hr:r.ok (hp w'))(hb:∀b∈r.bl,w.heap.size<=b/\b<w'.heap.size)(adA:∀s∈H',∀b∈r.bl,b∉s.bl):SH w' M X (r::H'):=by
 have fresh:∀b,w.heap.size<=b->M b=none/\X.h b=none:=fun b hge=>by
  constructor
  ·cases hm:M b with
   |none=>rfl
   |some o=>have:=gH (S.m b o hm);omega
  ·cases hm:X.h b with
   |none=>rfl
   |some o=>have:=gH (S.x b o hm);omega
 refine⟨S'.m,S'.x,S'.mx,fun s hs=>?_,fun s hs b hbs=>?_,fun j k s t hjk hs ht b hbs=>?_,S'.like⟩
 ·rcases List.mem_cons.1 hs with rfl|hs
  ·exact hr
  ·exact S'.ok s hs
 ·rcases List.mem_cons.1 hs with rfl|hs
  ·exact⟨(hb b hbs).2,fresh b (hb b hbs).1⟩
  ·exact S'.bl s hs b hbs
 ·cases j with
  |zero=>
   cases k with
   |zero=>exact absurd rfl hjk
   |succ k=>
    simp only[List.getElem?_cons_zero,Option.some.injEq,List.getElem?_cons_succ]at hs ht
    subst hs
    exact adA t (List.mem_of_getElem? ht) b hbs
  |succ j=>
   cases k with
   |zero=>
    simp only[List.getElem?_cons_zero,Option.some.injEq,List.getElem?_cons_succ]at hs ht
    subst ht
    exact fun j5=>adA s (List.mem_of_getElem? hs) b j5 hbs
   |succ k=>
    simp only[List.getElem?_cons_succ]at hs ht
    exact S'.ap j k s t (by omega) hs ht b hbs
theorem aF.dg{N:Hp}{A:Option Addr}{c:Nat}{d:Dg}(h:aF aG N A c d.ae)(hN:N.le (hp w)):kF w w.heap.size (.agg [.slice A d.ae.length c,.int .i64 d.loops].toArray) d:=by
 refine⟨A,c,rfl,h.1,⟨jr jD.hf _,h.2.1,fun h0=>?_⟩⟩
 have hlen:0<d.ae.length:=by simpa using h0
 obtain⟨e,cs,T,fz,hc,_⟩:=h.2.2 hlen
 refine⟨adB A,qi A,e,gH (hN _ _ hc),fun j u hu=>?_⟩
 exact h.cells hN j u hu
theorem aiF{f:FuncId}{vs:List Value}{b:Bool}(S:SH w M X [])(h:Calls Tryz.prog f vs.toArray w (uN b w)):Cq Tryz.prog f vs w M X (fun u=>u=.bool b):=
 h.mono fun e w' ⟨he,hk⟩=>⟨_,he,S.old hk,rfl⟩
theorem aag(d:Dg){A:Option Addr}{c:Nat}(h:aF aG (M.un X.h) A c d.ae)(S:SH w M X []):Cq Tryz.prog 31 [.agg [.slice A d.ae.length c,.int .i64 d.loops].toArray] w M X (fun u=>u=.bool (gW d)):=
 aiF S (afV _ d w (h.dg S.um))
theorem afZ(d:Dg){A B:Option Addr}{c e:Nat}(h:aF aG (M.un X.h) A c d.ae)(k:aF aG (M.un X.h) B e d.ae)(S:SH w M X []):Cq Tryz.prog 11 [.agg [.slice A d.ae.length c,.int .i64 d.loops].toArray,.agg [.slice B d.ae.length e,.int .i64 d.loops].toArray] w M X (fun u=>u=.bool true):=
 (ai6 _ _ d w (h.dg S.um) (k.dg S.um)).mono fun e w' ⟨he,hk⟩=>⟨_,he,S.old hk,rfl⟩
end
def ShV(d:Dg)(vi vo:Value):Prop:=∃gi go,vi=.slice (some ⟨gi,0,none⟩) (2*d.ae.length+1) (2*d.ae.length+1)/\vo=.slice (some ⟨go,0,none⟩) (2*d.ae.length+1) (2*d.ae.length+1)/\gi≠go
def atK(d:Dg)(v:Value)(N:List Rs):Prop:=
 (gW d=false/\v=.tuple [.pointer none,.bool false].toArray/\N=[])\/
 (gW d=true/\∃g vc vi vo,v=.tuple [.pointer (some ⟨g,0,none⟩),.bool true].toArray/\
  N=[Rs.box g 70 [vc,.int .i64 d.loops,vi,vo],Rs.row aG vc d.ae,Rs.row bp vi (aw d false (4*d.ae.length)),Rs.row bp vo (aw d true (4*d.ae.length))]/\ShV d vi vo)
theorem lF{α:Type}{C:Cd α}{v:Value}{xs:List α}{b:Nat}(h:b∈(Rs.row C v xs).bl):v.ownBlock=some b:=by simpa[Rs.row]using h
theorem alH {w : World} {M : Hp} {X : Fr} (d : Dg) {A : Option Addr} {c : Nat} (h : aF aG (M.un X.h) A c d.ae) (S : SH w M X []) : Co Tryz.prog 64 [.agg [.slice A d.ae.length c, .int .i64 d.loops].toArray] w M X (atK d) := by
  refine (aiq _ d w (h.dg S.um)).mono ?_
  rintro e w' (⟨hm, rfl, hk⟩ | ⟨hm, v, rfl, hk, g, B, cp, gi, go, rfl, hg, hne, hb, hc, hi, ho⟩)
  · exact ⟨_, rfl, [], S.old hk, .inl ⟨hm, rfl, rfl⟩⟩
  · have hci := hc.j0 hi (by decide)
    have hco := hc.j0 ho (by decide)
    have hcb := hc.AB hb (by decide)
    have hib := hi.AB hb (by decide)
    have hob := ho.AB hb (by decide)
    have S0 := S.old hk
    have S1 : SH w' M X [Rs.row bp (.slice (some ⟨go, 0, none⟩) (2 * d.ae.length + 1) (2 * d.ae.length + 1)) (aw d true (4 * d.ae.length))] :=
      S.Bj S0 (iu.Ao (C := bp) (ho.base (Nat.zero_le _))) (fun b hb => ho.lt b (lF hb)) (by simp)
    have S2 := S.Bj S1 (r := Rs.row bp (.slice (some ⟨gi, 0, none⟩) (2 * d.ae.length + 1) (2 * d.ae.length + 1)) (aw d false (4 * d.ae.length)))
      (iu.Ao (C := bp) (hi.base (Nat.zero_le _))) (fun b hb => hi.lt b (lF hb)) (fun s hs b hb hbs => by
        rw [List.mem_singleton] at hs
        subst hs
        have h1 := lF hb
        have h2 := lF hbs
        simp only [Value.ownBlock, Option.some.injEq] at h1 h2
        omega)
    have S3 := S.Bj S2 (r := Rs.row aG (.slice B d.ae.length cp) d.ae) (iu.Ao (C := aG) (hc.base (Nat.zero_le _))) (fun b hb => hc.lt b (lF hb)) (fun s hs b hb hbs => by
        have h1 := lF hb
        rcases List.mem_cons.1 hs with rfl | hs
        · rcases hci with h | h
          · rw [h] at h1; cases h1
          · exact h (h1.trans (lF hbs).symm)
        · rw [List.mem_singleton] at hs
          subst hs
          rcases hco with h | h
          · rw [h] at h1; cases h1
          · exact h (h1.trans (lF hbs).symm))
    have S4 := S.Bj S3 (r := Rs.box g 70 [.slice B d.ae.length cp, .int .i64 d.loops, .slice (some ⟨gi, 0, none⟩) (2 * d.ae.length + 1) (2 * d.ae.length + 1), .slice (some ⟨go, 0, none⟩) (2 * d.ae.length + 1) (2 * d.ae.length + 1)])
      hb (fun b hb' => by simp [Rs.box] at hb'; subst hb'; exact ⟨hg, hb.lt⟩) (fun s hs b hb' hbs => by
        simp [Rs.box] at hb'
        subst hb'
        rcases List.mem_cons.1 hs with rfl | hs
        · rcases hcb with h | h
          · have := lF hbs; rw [h] at this; cases this
          · exact h (lF hbs)
        · rcases List.mem_cons.1 hs with rfl | hs
          · rcases hib with h | h
            · have := lF hbs; rw [h] at this; cases this
            · exact h (lF hbs)
          · rw [List.mem_singleton] at hs
            subst hs
            rcases hob with h | h
            · have := lF hbs; rw [h] at this; cases this
            · exact h (lF hbs))
    exact ⟨_, rfl, _, S4, .inr ⟨hm, g, _, _, _, rfl, rfl, gi, go, rfl, rfl, hne⟩⟩
end Go.Proofs.YthppkofceancjaaGreat
namespace Go.Proofs.YthppkofceancjaaGreat
open Go.ChangeShapes Go.WideShapes Go.ChangeAt Go.RowKit
section
variable {P : Program} {o : Oper} {L : List (Nat × Value)} {w w' : World} {x y z : Operand} {t t' T E : TypeId} {a b : Int} {v u : Value} {n d : Nat} {Kt : List (Nat × Value) → World → Prop} {M M' : Hp} {X : Fr} {H H' : List Rs} {i g off : Nat} {l : List Value}
theorem uu{f:FuncId}{ys:List Operand}{vs:List Value}{fa ca:Array Operand}(hop:o.op=.makeFunc (.func f) fa ca)(hf:fa=#[])(hc:ca=ys.toArray)(hv:oevs L ys=some vs):Run P o L w (.func (.func f) #[] vs.toArray) w:=by
 intro n c he
 unfold execOp
 subst hf
 simp only[hop,hc,List.map_toArray,he.kx hv,Instr.makeFunc,Sem.run_bind,Sem.run_pure,Result.andThen_ok]
 rfl
theorem ai0{f:FuncId}{vs cap:List Value}{ca:Call}{fo:Operand}{xs:List Operand}(hd:o.dst=some d)(hop:o.op=.call ca)(cm:ca.callee=.value fo)(hfo:oev L fo=some (.func (.func f) #[] cap.toArray))
  (hxs:ca.args=xs.toArray)(hvs:oevs L xs=some vs)(hn:Nat.blt d n=true)(hen:∀args w,(callFunc f args).run P w=.ok (.enter f args) w)(S:SH w M X H)
  {R:Value->Prop}(hcall:Cq P f (vs++cap) w M (XH w X H) R)(h:∀v w',SH w' M X H->R v->Kt ((d,v)::L) w'):WO P n o L w Kt:=by
 intro a ha next Q hk
 have hr:(execOp a.eval o).run P w=.ok (.enter f (vs++cap).toArray) w:=by
  unfold execOp
  simp only[hop,resolve,cm,ha.eval hfo,hxs,List.map_toArray,ha.kx hvs,Deferred.ofValue,Sem.run_bind,Sem.run_pure,Result.andThen_ok,invoke,Array.empty_append,List.append_toArray]
  exact hen _ _
 unfold Oper.wp
 rw[hr,Oper.upon_enter,hd]
 refine hcall.mono ?_
 rintro e w' ⟨v,rfl,h2,h4⟩
 exact hk _ _ _ (ha.put (by simpa using hn) v) (h v w' (S.back h2) h4)
theorem SH.EC{α:Type}{C:Cd α}{z:α}(S:SH w M X H)(hi:nth H i=some (Rs.box g E l))(hl:l=C.f z)(hr:C.u8<=140737488355328):aF C (M.un (XH w X H).h) (some ⟨g,0,none⟩) 1 [z]:=by
 have hmem:Rs.box g E l∈H:=by rw[dR]at hi;exact List.mem_of_getElem? hi
 refine⟨by simp,by simpa using hr,fun _=>⟨rfl,l.toArray,E,(0,0),?_,fun j u hu=>?_⟩⟩
 ·show(M.un (XH w X H).h) g=_
  have h1:=S.bl _ hmem g (by simp[Rs.box])
  have h2:hp w g=some (.cells l.toArray E (0,0)):=S.get hi
  have h3:(H.any fun r=>r.bl.contains g)=true:=n9.2 ⟨_,hmem,List.mem_singleton.2 rfl⟩
  simp only[Hp.un,h1.2.1,XH,h3,if_true,h2]
 ·rw[List.flatMap_cons,List.flatMap_nil,List.append_nil,<-hl]at hu
  simpa[qi]using hu
theorem SH.ad7(S:SH w M X H)(hi:nth H i=some (Rs.box g E l)):cM (M.un (XH w X H).h) g E l:=by
 have hmem:Rs.box g E l∈H:=by rw[dR]at hi;exact List.mem_of_getElem? hi
 have h1:=S.bl _ hmem g (by simp[Rs.box])
 have h2:hp w g=some (.cells l.toArray E (0,0)):=S.get hi
 unfold cM
 have h3:(H.any fun r=>r.bl.contains g)=true:=n9.2 ⟨_,hmem,List.mem_singleton.2 rfl⟩
 simp only[Hp.un,h1.2.1,XH,h3,if_true,h2]
theorem aia{ca:Call}{ops:List Operand}{ts:List TypeId}(hop:o.op=.call ca)(cm:ca.callee=.builtin .max)(hxs:ca.args=ops.toArray)(hts:ca.argTypes=ts.toArray)(hx:oevs L ops=some [.int .i64 a,.int .i64 b]):Run P o L w (.int .i64 (max a b)) w:=by
 intro n c he
 have e:(if b>a then b else a)=max a b:=by
  by_cases h:b>a
  ·rw[if_pos h];omega
  ·rw[if_neg h];omega
 unfold execOp
 simp only[hop,resolve,cm,hxs,hts,List.map_toArray,he.kx hx,Sem.run_bind,Sem.run_pure,Result.andThen_ok,invoke,builtin,Builtin.max_,List.foldlM_cons,List.foldlM_nil,Builtin.max2,e]
theorem wC{α:Type}{C:Cd α}{len:Nat}{pa:Array (Nat×Operand)}{ps:List (Nat×Operand)}{vs:List (Nat×Value)}{pl:List (Nat×Nat)}(hop:o.op=.buildSlice T len pa)(tX:pa=ps.toArray)(hd:o.dst=some d)(hn:Nat.blt d n=true)(hT:jI P T C)(hps:partL L ps=some vs)(hpl:plOk C.k 0 pl=true)
  (hl:fillL pl (List.flatten (List.replicate len (C.f C.z))) vs=some l)(hsm:Nat.ble (len*C.k) 16777216=true)(hlen:Nat.blt 0 len=true)(S:SH w M X H)
  (h:∀g w',SH w' M X (Rs.box g C.E l::H)->Kt ((d,.slice (some ⟨g,0,none⟩) len len)::L) w'):WO P n o L w Kt:=by
 obtain⟨zv,h1,h2,h3,h4,h5⟩:=hT
 obtain⟨inf,qW,hz,hs,h8⟩:=info_parts h2
 have OC:zv.cells.size=C.k:=by rw[<-C.hf C.z,<-h3];simp
 subst tX
 have hzl:((Array.range (len*C.k)).map (zv.cells[·%zv.cells.size]!)).toList=List.flatten (List.replicate len (C.f C.z)):=by
  have e0:List.flatten (List.replicate len (C.f C.z))=(List.replicate len C.z).flatMap C.f:=by
   rw[List.flatMap_def,List.map_replicate]
  rw[e0]
  apply List.ext_getElem?
  intro q
  by_cases hq:q<len*C.k
  ·have hi:q/C.k<(List.replicate len C.z).length:=by rw[List.length_replicate];exact(Nat.div_lt_iff_lt_mul h4).2 hq
   have hj:q%C.k<C.k:=Nat.mod_lt _ h4
   have e:=lJ C.hf hi hj
   rw[show q/C.k*C.k+q%C.k=q by rw[Nat.mul_comm];exact Nat.div_add_mod q C.k]at e
   rw[e,List.getElem_replicate,<-h3]
   simp only[OC,Array.toList_map,Array.toList_range,List.getElem?_map,List.getElem?_range hq,Option.map_some]
   rw[Array.getElem!_eq_getD]
   simp[OC,hj]
  ·rw[List.getElem?_eq_none,List.getElem?_eq_none]
   ·rw[jr C.hf,List.length_replicate];omega
   ·simp;omega
 have hf:Instr.fill (fun i=>some (i*C.k,C.k)) ((Array.range (len*C.k)).map (zv.cells[·%zv.cells.size]!)) vs=some l.toArray:=
  Ev (pl:=pl) (fun i p hp=>by rw[D9 hpl i p hp,Nat.zero_add]) vs _ l (by rw[hzl];exact hl)
 have hlen':0<len:=by simpa using hlen
 have hr:=run_buildSlice (P:=P) w T C.E len vs.toArray l.toArray inf zv h1 qW hz (by rw[hs];have:=Nat.le_of_ble_eq_true hsm;omega) (by rw[hs];have:=Nat.mul_pos hlen' h4;omega) (by rw[hs];exact hf)
 refine Ub (v:=.slice (some ⟨w.heap.size,0,none⟩) len len) (w':=w.alloc (.cells l.toArray C.E)) hd hn ?_ (h _ _ (S.AA C.E l))
 intro n c he
 unfold execOp
 simp only[hop,List.map_toArray,Ab he hps,hr,Sem.run_bind,Sem.run_pure,Result.andThen_ok]
theorem SH.Ep{α:Type}{C:Cd α}{zs:List α}(S:SH w M X H)(hi:nth H i=some (Rs.box g E l))(hl:l=zs.flatMap C.f)(hr:zs.length*C.u8<=140737488355328):aF C (M.un (XH w X H).h) (some ⟨g,0,none⟩) zs.length zs:=by
 refine⟨Nat.le_refl _,hr,fun _=>⟨rfl,l.toArray,E,(0,0),S.ad7 hi,fun j u hu=>?_⟩⟩
 rw[<-hl]at hu
 simpa[qi]using hu
end
section
variable {α : Type} {C : Cd α} {N : Hp} {vs : List eT} {xss : List (List α)}
end
end Go.Proofs.YthppkofceancjaaGreat
namespace Go.Proofs.YthppkofceancjaaGreat
open Go.ChangeShapes Go.WideShapes Go.ChangeAt Go.RowKit
section
variable {P : Program} {f : FuncId} {vs vs' : List Value} {w : World} {M : Hp} {X : Fr}
theorem Ct.cast{R:Value->Hp->Prop}(h:vs=vs')(c:Ct P f vs' w M X R):Ct P f vs w M X R:=h▸c
theorem ez.at_{α:Type}{C:Cd α}{ss:List eT}{xss:List (List α)}{H:List Rs}(_:SH w M X H)(h:ez C (M.un (XH w X H).h) ss xss):ez C (M.un (XH w X H).h) ss xss:=h
end
end Go.Proofs.YthppkofceancjaaGreat
