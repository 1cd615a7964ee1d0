/- Part 2 of the proof of the law KhovanovTells: the walks through its functions and the plain laws that they need. -/
import Derived.Test.YthppkofceancjaaGreatKhX1
import Derived.Test.YthppkofceancjaaGreatRows
import Derived.WalkKit
import Derived.ProofKit
import Derived.OpenShut
import Derived.SizedLaws
import Derived.Outline
import Derived.BigQuiet
import Derived.Deep.QuietTactic
import Derived.Deep.Draws
import Derived.IntWalk
import Derived.Lib.Hide
import Derived.Maps.AppendAt
import Derived.Deep.AppendLies
import Derived.Deep.DeepCutAuto
import Derived.Deep.CutBlock
import Derived.Deep.RegionWith
import Derived.Deep.RegionHeld3
import Derived.WalkSpells
set_option linter.unusedSimpArgs false
set_option linter.unusedVariables false
noncomputable section
namespace Go.Proofs.YthppkofceancjaaGreat
open Go.ChangeShapes Go.WideShapes Go.ChangeAt Go.RowKit
theorem uT0:type_of%Tryz.underlying0:=Tryz.underlying0
theorem aw:type_of%Tryz.underlying3:=Tryz.underlying3
theorem gD:type_of%Tryz.underlying4:=Tryz.underlying4
theorem uT5:type_of%Tryz.underlying5:=Tryz.underlying5
theorem uT9:type_of%Tryz.underlying9:=Tryz.underlying9
theorem bF:type_of%Tryz.underlying22:=Tryz.underlying22
theorem bg:type_of%Tryz.underlying24:=Tryz.underlying24
theorem gw:type_of%Tryz.underlying26:=Tryz.underlying26
theorem pY:type_of%Tryz.underlying42:=Tryz.underlying42
theorem uI:type_of%Tryz.underlying45:=Tryz.underlying45
theorem cI:type_of%Tryz.underlying53:=Tryz.underlying53
theorem qP:type_of%Tryz.underlying64:=Tryz.underlying64
theorem Cf:type_of%Tryz.underlying65:=Tryz.underlying65
theorem y9:type_of%Tryz.underlying68:=Tryz.underlying68
theorem jM:type_of%Tryz.underlying70:=Tryz.underlying70
theorem bR:type_of%Tryz.underlying77:=Tryz.underlying77
theorem gH:type_of%Tryz.underlying97:=Tryz.underlying97
theorem ae9:type_of%Tryz.underlying98:=Tryz.underlying98
theorem y8:type_of%Tryz.underlying99:=Tryz.underlying99
theorem FP:type_of%Tryz.underlying103:=Tryz.underlying103
theorem ux:type_of%Tryz.underlying108:=Tryz.underlying108
theorem se:type_of%Tryz.underlying113:=Tryz.underlying113
theorem uw:type_of%Tryz.underlying116:=Tryz.underlying116
theorem aoQ:type_of%Tryz.underlying118:=Tryz.underlying118
theorem iP:type_of%Tryz.underlying120:=Tryz.underlying120
theorem wE:type_of%Tryz.underlying122:=Tryz.underlying122
theorem aeo:type_of%Tryz.underlying123:=Tryz.underlying123
theorem mC:type_of%Tryz.underlying127:=Tryz.underlying127
theorem ja:type_of%Tryz.underlying128:=Tryz.underlying128
theorem aoP:type_of%Tryz.underlying129:=Tryz.underlying129
theorem uv:type_of%Tryz.underlying130:=Tryz.underlying130
theorem FO:type_of%Tryz.underlying141:=Tryz.underlying141
theorem aen:type_of%Tryz.underlying152:=Tryz.underlying152
theorem uu:type_of%Tryz.underlying166:=Tryz.underlying166
theorem lG:type_of%Tryz.underlying168:=Tryz.underlying168
theorem ko:type_of%Tryz.underlying170:=Tryz.underlying170
theorem BK:type_of%Tryz.underlying172:=Tryz.underlying172
theorem KT:type_of%Tryz.underlying173:=Tryz.underlying173
theorem dZ:type_of%Tryz.underlying176:=Tryz.underlying176
theorem FN:type_of%Tryz.underlying177:=Tryz.underlying177
theorem aoO:type_of%Tryz.underlying179:=Tryz.underlying179
theorem pQ:type_of%Tryz.underlying180:=Tryz.underlying180
theorem FM:type_of%Tryz.underlying185:=Tryz.underlying185
theorem iZ:type_of%Tryz.underlying190:=Tryz.underlying190
theorem yR:type_of%Tryz.underlying192:=Tryz.underlying192
theorem aem:type_of%Tryz.underlying208:=Tryz.underlying208
theorem ael:type_of%Tryz.underlying231:=Tryz.underlying231
theorem aek:type_of%Tryz.underlying236:=Tryz.underlying236
theorem aej:type_of%Tryz.underlying237:=Tryz.underlying237
theorem aei:type_of%Tryz.underlying241:=Tryz.underlying241
theorem aeh:type_of%Tryz.underlying244:=Tryz.underlying244
theorem KR:type_of%Tryz.underlying246:=Tryz.underlying246
theorem aeg:type_of%Tryz.underlying249:=Tryz.underlying249
theorem aef:type_of%Tryz.underlying251:=Tryz.underlying251
theorem aee:type_of%Tryz.underlying265:=Tryz.underlying265
theorem aed:type_of%Tryz.underlying276:=Tryz.underlying276
end Go.Proofs.YthppkofceancjaaGreat
namespace Go.Proofs.YthppkofceancjaaGreat
open Go.ChangeShapes Go.WideShapes Go.ChangeAt Go.RowKit
section
variable {P : Program} {n : Nat} {C : Ctx} {c : Code} {s : List K} {L : List (Nat × Value)} {w : World} {M : Hp} {X : Fr} {H : List Rs}
theorem U1(a b:Code)(hk:kind c=1)(ha:cL c=a)(hb:cR c=b)(h:WS P n C a (.thn b::s) L w):WS P n C c s L w:=by subst ha;subst hb;exact amJ hk h
theorem U7(a:Code)(i:Nat)(hk:kind c=3)(ha:cL c=a)(hi:tJ c=i)(h:WS P n C a (.blk i::s) L w):WS P n C c s L w:=by subst ha;subst hi;exact ajB hk h
theorem dH(x y:Code){b:Bool}(hk:kind c=2)(hb:oev L (cX c)=some (.bool b))(hx:cL c=x)(hy:cR c=y)(ht:b=true->WS P n C x s L w)(hf:b=false->WS P n C y s L w):WS P n C c s L w:=by subst hx;subst hy;exact Jn hk hb ht hf
theorem rM(x:Code)(hk:kind c=2)(hb:oev L (cX c)=some (.bool true))(hx:cL c=x)(ht:WS P n C x s L w):WS P n C c s L w:=by subst hx;exact ajz hk hb ht
theorem jq(y:Code)(hk:kind c=2)(hb:oev L (cX c)=some (.bool false))(hy:cR c=y)(hf:WS P n C y s L w):WS P n C c s L w:=by subst hy;exact ajA hk hb hf
theorem aW{a:Act}{c':Code}(ha:Env n L a)(hc:c'=c)(h:WS P n C c s L w):c'.wp P (post P C s) a w:=by subst hc;exact h a ha
theorem Ui(I:Nat->Act->World->Prop)(hk:kind c=4)(h0:∀a,Env n L a->∃k,I k a w)
  (round:∀k a w,I k a w->(cL c).wp P (post P C (.lp (fun a' w'=>∃k',k'<k/\I k' a' w')::s)) a w):WS P n C c s L w:=by
 intro a ha
 rw[aa2 hk]
 have key:∀m k,k<m->∀a w,I k a w->Code.rounds P (cL c) (post P C s) m a w:=by
  intro m
  induction m with
  |zero=>intro k hk;omega
  |succ m ih=>
   intro k hk a w hi
   rw[rounds_succ]
   refine Code.wp_mono (fun e a w q=>?_) (round k a w hi)
   cases e with
   |normal=>
    obtain⟨k',hlt,hi'⟩:=q
    exact ih k' (by omega) a w hi'
   |_=>exact q
 obtain⟨k0,h1⟩:=h0 a ha
 exact wp_loop_rounds (k0+1) (key (k0+1) k0 (by omega) a w h1)
theorem uh(J:Act->World->Prop)(h1:WS P n C c (.lp J::s) L w)(h2:∀a w,J a w->post P C s .normal a w):WS P n C c s L w:=by
 intro a ha
 refine Code.wp_mono (fun e a w q=>?_) (h1 a ha)
 cases e with
 |normal=>exact h2 a w q
 |_=>exact q
theorem uy{a:Act}(ha:Env n L a)(h:NM P n C s L w):post P C s .normal a w:=h a ha
theorem Ur{o:Oper}{x:Operand}{p:Addr}(ho:o.op=.nilCheck x)(hx:oev L x=some (.pointer (some p))):Run P o L w (.pointer (some p)) w:=by
 intro n c hc;unfold execOp;simp only[ho,hc.eval hx];rfl
theorem eZ(t:Nat){v:Value}(v':Value)(hl:lk L t=some v)(e:v=v')(h:WS P n C c s ((t,v')::L) w):WS P n C c s L w:=by
 subst e
 exact fun a ha=>h a ⟨ha.sz,ha.df,fun u x hx=>by
  rw[uf]at hx
  split at hx
  ·rename_i e;subst e;injection hx with hx;subst hx;exact ha.at_ _ _ hl
  ·exact ha.at_ _ _ hx⟩
theorem cZ{k:Nat}(t:Nat){v:Value}(v':Value)(hl:lk L t=some v)(e:v=v')(h:WL P n C c k s ((t,v')::L) w):WL P n C c k s L w:=by
 subst e
 exact fun a ha=>h a ⟨ha.sz,ha.df,fun u x hx=>by
  rw[uf]at hx
  split at hx
  ·rename_i e;subst e;injection hx with hx;subst hx;exact ha.at_ _ _ hl
  ·exact ha.at_ _ _ hx⟩
theorem abw{Mb:Hp}{Hb:List Rs}{f:Nat}{l:Array Bool}{t:Nat}{b:Bool}(hl:lk L t=some (.bool b))(ht:b=true->WA P n C c s X f l ((t,.bool true)::L) Mb Hb M H)(hf:b=false->WA P n C c s X f l ((t,.bool false)::L) Mb Hb M H):WA P n C c s X f l L Mb Hb M H:=by
 have key:∀b',b=b'->WA P n C c s X f l ((t,.bool b')::L) Mb Hb M H->WA P n C c s X f l L Mb Hb M H:=by
  intro b' e h hg a ha
  refine h hg a ⟨ha.sz,ha.df,fun u v hv=>?_⟩
  rw[uf]at hv
  split at hv
  ·rename_i e2;subst e2;injection hv with hv;subst hv;subst e;exact ha.at_ _ _ hl
  ·exact ha.at_ _ _ hv
 cases b
 ·exact key false rfl (hf rfl)
 ·exact key true rfl (ht rfl)
theorem Ux{α:Type}{C:Cd α}{xs:List α}{o:Oper}{d g i q c:Nat}{t E:TypeId}{l:List Value}{Kt:List (Nat×Value)->World->Prop}(y:α){ca:Call}{ops:List Operand}{ts:List TypeId}{rv:Value}(hop:o.op=.call ca)(di:ca.callee=.builtin .append)(hxs:ca.args=ops.toArray)(hts:ca.argTypes=ts.toArray)(hd:o.dst=some d)(hn:Nat.blt d n=true)
  (hx:oevs L ops=some [rv,.slice (some ⟨g,0,none⟩) 1 c])(ht:ts=[t,t])(hT:fN P t C)(S:SH w M X H)(hi:nth H i=some (Rs.row C rv xs))(hq:nth H q=some (Rs.box g E l))(hl:l=C.f y)(hr:(xs.length+1)*C.u8<=140737488355328)
  (h:∀v' w',SH w' M X (H.set i (Rs.row C v' (xs++[y])))->Kt ((d,v')::L) w'):WO P n o L w Kt:=by
 refine aaH (ys:=[y]) hop di hxs hts hd hn hx ht hT S hi (.inr ⟨_,rfl,fun j u hu=>?_⟩) hr h
 rw[List.flatMap_cons,List.flatMap_nil,List.append_nil,<-hl]at hu
 have:=S.aG hq (o:=j) (u:=u) (by rw[dc];exact hu)
 unfold Addr.add
 split
 ·rename_i e;subst e;exact this
 ·simpa using this
end
theorem SH.one{α:Type}{D:Cd α}{v:Value}{xs:List α}{w:World}{M:Hp}{X:Fr}{H:List Rs}{i:Nat}(S:SH w M X H)(hi:nth H i=some (Rs.row D v xs)):v.oneCell'=true:=by
 obtain⟨A,c,rfl,_⟩:=S.sl hi
 rfl
theorem SH.yM{α:Type}{D:Cd α}{v:Value}{xs:List α}{w:World}{M:Hp}{X:Fr}{H:List Rs}{i:Nat}(S:SH w M X H)(hi:nth H i=some (Rs.row D v xs)):v.cells.toList=[v]:=by
 obtain⟨A,c,rfl,_⟩:=S.sl hi
 rfl
theorem py{u:Value}{us:List Value}(h:u.oneCell'=true)(hs:ones us=true):ones (u::us)=true:=by
 simp[ones,h,hs]
def Uh:Cd Int:=⟨fun x=>[.int .i64 x],1,8,3,0,fun _=>rfl,by intro x u hu;simp at hu;subst hu;rfl⟩
def cS:Cd Bool:=⟨fun x=>[.bool x],1,1,4,false,fun _=>rfl,by intro x u hu;simp at hu;subst hu;rfl⟩
theorem int_eq{a b:Int}(h:a=b):Value.int .i64 a=.int .i64 b:=by rw[h]
structure eO where
 A:Option Addr
 n:Nat
 c:Nat
instance :Inhabited eO:=⟨⟨none,0,0⟩⟩
def ck(E:TypeId):Cd eO:=⟨fun x=>[.slice x.A x.n x.c],1,24,E,⟨none,0,0⟩,fun _=>rfl,by intro x u hu;simp at hu;subst hu;rfl⟩
def iY{α:Type}(C:Cd α)(N:Hp)(vs:List eO)(xss:List (List α)):Prop:=
 vs.length=xss.length/\∀i,i<xss.length->(ga vs i).n=(ga xss i).length/\aB C N (ga vs i).A (ga vs i).c (ga xss i)
section
variable {α : Type} {C : Cd α} {N N' : Hp} {vs : List eO} {xss : List (List α)}
theorem iY.mono(h:iY C N vs xss)(k:N.le N'):iY C N' vs xss:=⟨h.1,fun i hi=>⟨(h.2 i hi).1,(h.2 i hi).2.mono k⟩⟩
theorem iY.bN:iY C N [] ([]:List (List α)):=⟨rfl,fun i hi=>by simp at hi⟩
theorem iY.snoc(h:iY C N vs xss){A:Option Addr}{xs:List α}{c:Nat}(hx:aB C N A c xs):iY C N (vs++[⟨A,xs.length,c⟩]) (xss++[xs]):=by
 refine⟨by simp[h.1],fun i hi=>?_⟩
 rw[List.length_append,List.length_singleton]at hi
 by_cases h1:i<xss.length
 ·rw[pE _ _ _ (by rw[h.1];exact h1),pE _ _ _ h1]
  exact h.2 i h1
 ·obtain rfl:i=xss.length:=by omega
  rw[tU _ _ _ (by rw[h.1];exact Nat.le_refl _),tU _ _ _ (Nat.le_refl _),h.1,Nat.sub_self]
  exact⟨rfl,hx⟩
end
end Go.Proofs.YthppkofceancjaaGreat
namespace Go.Proofs.YthppkofceancjaaGreat
section
variable {P : Program} {n : Nat} {C : Ctx} {c : Code} {s : List K} {L : List (Nat × Value)} {w : World} {Mb M : Hp} {X : Fr} {Hb H : List Rs} {l : Array Bool}
theorem Ua(x y:Code){p:Prop}[Decidable p](hk:kind c=2)(hb:oev L (cX c)=some (.bool (decide p)))(hx:cL c=x)(hy:cR c=y)(ht:p->WS P n C x s L w)(hf:¬p->WS P n C y s L w):WS P n C c s L w:=dH x y hk hb hx hy (fun h=>ht (of_decide_eq_true h)) (fun h=>hf (of_decide_eq_false h))
theorem Uy{k t:Nat}{p:Prop}[Decidable p](hl:lk L t=some (.bool (decide p)))(ht:p->WL P n C c k s ((t,.bool true)::L) w)(hf:¬p->WL P n C c k s ((t,.bool false)::L) w):WL P n C c k s L w:=Ap hl (fun h=>ht (of_decide_eq_true h)) (fun h=>hf (of_decide_eq_false h))
theorem azv{f t:Nat}{p:Prop}[Decidable p](hl:lk L t=some (.bool (decide p)))(ht:p->WA P n C c s X f l ((t,.bool true)::L) Mb Hb M H)(hf:¬p->WA P n C c s X f l ((t,.bool false)::L) Mb Hb M H):WA P n C c s X f l L Mb Hb M H:=abw hl (fun h=>ht (of_decide_eq_true h)) (fun h=>hf (of_decide_eq_false h))
def KU(L:List (Nat×Value)):Op->Option Value
 |.move x=>oev L x
 |.assign x=>oev L x
 |.pick x a b=>match oev L x with
  |some (.bool true)=>oev L a
  |some (.bool false)=>oev L b
  |_=>none
 |_=>none
def stepG(c:Code)(n:Nat)(L:List (Nat×Value)):Option (Nat×Bool)->Option Bool
 |none=>some true
 |some (j,b)=>match op c j with
  |some o=>match o.dst with
   |some t=>match Nat.blt t n,lk L t with
    |true,some g=>some (isG g b)
    |_,_=>none
   |none=>none
  |none=>none
def KV(c:Code)(n k:Nat)(L:List (Nat×Value)):Option (List (Nat×Value)):=match op c k with
 |some o=>match o.dst with
  |some d=>match Nat.blt d n,stepG c n L o.guard with
   |true,some true=>match KU L o.op with
    |some v=>some ((d,v)::L)
    |none=>none
   |true,some false=>some ((d,undef)::L)
   |_,_=>none
  |none=>none
 |none=>none
theorem I3{o:Oper}{y:Bool}(h:stepG c n L o.guard=some y):Wanted c L o.guard y/\iQ c o n=true:=by
 unfold stepG at h
 unfold iQ
 cases hg:o.guard with
 |none=>rw[hg]at h;injection h with h;exact⟨h.symm,rfl⟩
 |some p=>
  obtain⟨j,b⟩:=p
  rw[hg]at h
  simp only at h ⊢
  cases ho:op c j with
  |none=>rw[ho]at h;cases h
  |some o2=>
   rw[ho]at h
   simp only at h ⊢
   cases hd:o2.dst with
   |none=>rw[hd]at h;cases h
   |some t=>
    rw[hd]at h
    simp only at h ⊢
    split at h
    ·rename_i g h1 h2
     injection h with h
     exact⟨⟨o2,t,g,ho,hd,h2,h⟩,h1⟩
    ·cases h
theorem ajF{o:Oper}{v:Value}(h:KU L o.op=some v):Run P o L w v w:=by
 unfold KU at h
 split at h
 ·rename_i x e;exact run_move e h
 ·rename_i x e;exact run_assign e h
 ·rename_i x a b e
  split at h
  ·rename_i h1;exact aaN e h1 h
  ·rename_i h1;exact aaO e h1 h
  ·cases h
 ·cases h
theorem akY{k:Nat}{L2:List (Nat×Value)}(h:KV c n k L=some L2)(hw:WL P n C c k.succ s L2 w):WL P n C c k s L w:=by
 unfold KV at h
 split at h
 ·rename_i o ho
  split at h
  ·rename_i d hd
   split at h
   ·rename_i h1 h2
    obtain⟨g1,g2⟩:=I3 h2
    split at h
    ·rename_i v hv
     injection h with h
     subst h
     exact adh ho rfl g1 g2 (U8 hd h1 (ajF hv) hw)
    ·cases h
   ·rename_i h1 h2
    obtain⟨g1,g2⟩:=I3 h2
    injection h with h
    subst h
    exact aec ho rfl g1 hd (by simp[h1,g2]) hw
   ·cases h
  ·cases h
 ·cases h
def Hv(c:Code)(k n:Nat)(L:List (Nat×Value)):Option (Oper×Nat):=match op c k with
 |some o=>match stepG c n L o.guard,o.dst with
  |some true,some d=>match Nat.blt d n with
   |true=>some (o,d)
   |false=>none
  |_,_=>none
 |none=>none
theorem adC{k d:Nat}{o:Oper}(h:Hv c k n L=some (o,d)):op c k=some o/\Wanted c L o.guard true/\o.dst=some d/\(Nat.blt d n&&iQ c o n)=true:=by
 unfold Hv at h
 split at h
 ·rename_i o2 ho
  split at h
  ·rename_i d2 hg hd
   split at h
   ·rename_i hn
    simp only[Option.some.injEq,Prod.mk.injEq]at h
    obtain⟨rfl,rfl⟩:=h
    obtain⟨g1,g2⟩:=I3 hg
    exact⟨ho,g1,hd,by rw[hn,g2];rfl⟩
   ·cases h
  ·cases h
 ·cases h
theorem au(i f:Nat){d:Nat}{o:Oper}{v:Value}(hx:Hv c i n L=some (o,d))(hb:(Region.noSelect (rg c)&&!yC (rg c) i&&Region.free .any (rg c) l i&&(Region.ready .any (rg c) l).contains i)=true)
  (hy:∀M2 N w,Mb.le M2->SH w M2 X (N++Hb)->(Run P o L w v w\/∃ig vs,(∀n a,Env n L a->(execOp a.eval o).run P w=.ok (.enter ig vs) w)/\Calls P ig vs w fun e w3=>e=.returned v/\SH w3 M2 X (N++Hb)))
  (h:WA P n C c s X f (l.setIfInBounds i true) ((d,v)::L) Mb Hb M H):WA P n C c s X (f+1) l L Mb Hb M H:=by
 obtain⟨h1,h2,h3,h4⟩:=adC hx
 simp only[Bool.and_eq_true]at hb
 exact akQ f h1 (by rw[Bool.and_eq_true];exact⟨hb.1.1.1,hb.1.1.2⟩) hb.1.2 hb.2 h2 h3 h4 hy h
theorem aq(i f:Nat){d:Nat}{o:Oper}{v:Value}(hx:Hv c i n L=some (o,d))(hb:(Region.noSelect (rg c)&&Region.free .any (rg c) l i&&(Region.ready .any (rg c) l).contains i)=true)(hy:∀w,Run P o L w v w)
  (h:WA P n C c s X f (l.setIfInBounds i true) ((d,v)::L) Mb Hb M H):WA P n C c s X (f+1) l L Mb Hb M H:=by
 obtain⟨h1,h2,h3,h4⟩:=adC hx
 simp only[Bool.and_eq_true]at hb
 exact ajD f h1 hb.1.1 hb.1.2 hb.2 h2 h3 h4 hy h
def opD(c:Code)(k n:Nat):Option (Oper×Nat):=match op c k with
 |some o=>match o.guard,o.dst with
  |none,some d=>match Nat.blt d n with
   |true=>some (o,d)
   |false=>none
  |_,_=>none
 |none=>none
theorem ag(k:Nat){o:Oper}{d:Nat}{v:Value}{w':World}(h:opD c k n=some (o,d))(hr:Run P o L w v w')(hw:WL P n C c k.succ s ((d,v)::L) w'):WL P n C c k s L w:=by
 unfold opD at h
 split at h
 ·rename_i o2 ho
  split at h
  ·rename_i d2 hg hd
   split at h
   ·rename_i hn
    simp only[Option.some.injEq,Prod.mk.injEq]at h
    obtain⟨rfl,rfl⟩:=h
    exact Uj ho rfl hg (U8 hd hn hr hw)
   ·cases h
  ·cases h
 ·cases h
def JQ(c:Code)(n:Nat):Nat->Nat->List (Nat×Value)->Option (List (Nat×Value))
 |0,_,L=>some L
 |j+1,k,L=>match KV c n k L with
  |some L1=>JQ c n j (k+1) L1
  |none=>none
theorem af(k j:Nat){k':Nat}{L2:List (Nat×Value)}(hk:k'=k+j)(h:JQ c n j k L=some L2)(hw:WL P n C c k' s L2 w):WL P n C c k s L w:=by
 subst hk
 induction j generalizing k L with
 |zero=>injection h with h;subst h;exact hw
 |succ j ih=>
  unfold JQ at h
  split at h
  ·rename_i L1 h1
   refine akY h1 (ih (k+1) h ?_)
   rw[show k+1+j=k+(j+1)from by omega]
   exact hw
  ·cases h
end
end Go.Proofs.YthppkofceancjaaGreat
namespace Go.Proofs.YthppkofceancjaaGreat
open Go.ChangeShapes Go.WideShapes Go.ChangeAt Go.RowKit
theorem aij{H:Type}{enc:TypeId×Value->H}{P:Program}(hl:laidOutB P=true){W W':World}(hb:Below W.heap.size W W'):
  ∀(ts:List TypeId) (vs:List Value) (ds:List (DataW H)) (ps:List MemPlace),(∀t∈ts,P.readableRec t=true/\t<P.types.size)->
   DataW.TrodAll enc P W 0 (fun _=>true) true ts vs ds ps->(∀x∈ps,x.block<W.heap.size)->
   DataW.TrodAll enc P W' 0 (fun b=>decide (b<W.heap.size)) true ts vs ds ps:=by
 intro ts
 induction ts with
 |nil=>intro vs ds ps _ h _;cases vs<;>cases ds<;>exact h
 |cons t ts ih=>
  intro vs ds ps ht h hlt
  cases vs with
  |nil=>exact h.elim
  |cons v vs=>
   cases ds with
   |nil=>exact h.elim
   |cons d ds=>
    obtain⟨p,q,h1,h2,rfl⟩:=h
    have ht0:=ht t (by simp)
    exact⟨p,q,Below.trod hl ht0.1 ht0.2 h1 hb (fun x hx=>hlt x (by simp[hx])),
     ih vs ds q (fun t' ht'=>ht t' (by simp[ht'])) h2 (fun x hx=>hlt x (by simp[hx])),rfl⟩
theorem Il{H:Type}{enc:TypeId×Value->H}{P:Program}{W:World}{base:Nat}{spare:Nat->Bool}{held:Bool}:
  ∀(ts:List TypeId) (vs:List Value) (ds:List (DataW H)) (ps:List MemPlace),DataW.TrodAll enc P W base spare held ts vs ds ps->ds.length=ts.length:=by
 intro ts
 induction ts with
 |nil=>intro vs ds ps h;cases vs<;>cases ds<;>first|rfl|exact h.elim
 |cons t ts ih=>
  intro vs ds ps h
  cases vs with
  |nil=>exact h.elim
  |cons v vs=>
   cases ds with
   |nil=>exact h.elim
   |cons d ds=>
    obtain⟨p,q,_,h2,rfl⟩:=h
    simp[ih vs ds q h2]
theorem akn{H:Type}{enc:TypeId×Value->H}{C:Checked}{os:Os}{f:FuncId}{fn:Func}{s:ChangeSpec}{tb:TypeId}
  (own:ownKnob C.prog.godebug=none)(started:os.Started)(noInit:C.prog.inits.idxOf? f=none)(hfn:C.prog.funcs[f]? =some fn)
  (witness:∃(w:World) (tape:Tape) (i:Input),w.os=os/\(w.forCall tape i).Shaped C.prog/\i.vars=[]/\Input.okWide C.prog (w.forCall tape i) .any w.heap.size f i/\
   s.pre6 enc C.prog fn [] false (w.forCall tape i).memory i.args/\({}:Assume).holds C.prog (lone (Frame.enter C.prog f i.args .normal) [] (w.forCall tape i)))
  (hvars:s.vars=[])(hl:laidOutB C.prog=true)(hps:(fn.params.toList.all fun t=>C.prog.readableRec t&&decide (t<C.prog.types.size))=true)
  (hres:fn.resultTypes=#[tb])(vg:C.prog.underlying tb=some .bool)
  (K1:∀ds:List (DataW H),ds.length=fn.params.toList.length->s.fn H (ds++[])={results:=[.lit (.bool true)],args:=ds})
  (arJ:∀(W:World) (base:Nat) (args:Array Value) (ds:List (DataW H)) (p:List MemPlace),
   (∀(j:Nat) t v,fn.params[j]? =some t->args[j]? =some v->Value.okWide C.prog W .any base t v)->
   DataW.TrodAll enc C.prog W 0 (fun _=>true) true fn.params.toList args.toList ds p->W.noneFrozen p->(∀x∈p,x.block<W.heap.size)->
   (DataW.weightsEach C.prog fn.params.toList ds).all (·<=reachBytes)=true->
   Calls C.prog f args W fun e W'=>e=.returned (.bool true)/\Below W.heap.size W W'):
  ReturnsInHanded {} C os f .any (s.pre6 enc C.prog fn [] false) (s.post enc C.prog fn false true false false):=by
 refine returnsInHanded_of_change_sized (conds:=[]) own started noInit hfn witness ?_
 intro W base args ds gs before hval hW _ hsz _
 have hW':=hW
 obtain⟨p,q,hA,hV,rfl,hfz,_⟩:=hW
 rw[hvars]at hV
 have Vk:gs=[]/\q=[]:=by cases gs with
  |nil=>exact⟨rfl,hV⟩
  |cons g gs=>exact hV.elim
 obtain⟨rfl,rfl⟩:=Vk
 have hvt:s.plain.varTypes C.prog=[]:=by simp[DataSpec.varTypes,ChangeSpec.plain,hvars]
 rw[hvt,List.append_nil,List.append_nil]at hsz
 have hlt:∀x∈p,x.block<W.heap.size:=fun x hx=>hW'.lt x (by simp[hx])
 refine(arJ W base args ds p hval hA (fun b off hm=>hfz b off (by simp[hm])) hlt hsz).mono ?_
 rintro e W' ⟨rfl,hb⟩
 have arA:∀t∈fn.params.toList,C.prog.readableRec t=true/\t<C.prog.types.size:=by
  intro t ht
  have:=List.all_eq_true.1 hps t ht
  simpa using this
 refine⟨_,rfl,ds,[],_,[],p,[],hW',?_,?_,?_,hb.frame _,fun h=>by cases h⟩
 ·rw[K1 ds (Il _ _ _ _ hA),hres]
  exact trodAll_mk1 (shut_bool vg true)
 ·rw[K1 ds (Il _ _ _ _ hA)]
  exact aij hl hb _ _ _ _ arA hA hlt
 ·rw[K1 ds (Il _ _ _ _ hA),hvars]
  rfl
end Go.Proofs.YthppkofceancjaaGreat
namespace Go.Proofs.YthppkofceancjaaGreat
open Go.ChangeShapes Go.WideShapes Go.ChangeAt Go.RowKit
section
variable {P : Program} {o : Oper} {L : List (Nat × Value)} {w w' : World} {x y z : Operand} {t t' T E : TypeId} {a b : Int} {v u : Value} {n d : Nat} {M M' : Hp} {X : Fr} {H H' : List Rs} {i g off : Nat} {l : List Value}
theorem Um{P:Program}{f:FuncId}{fn:Func}{c:Code}(hf:P.funcs[f]? =some fn)(hname:(fn.name== "runtime.NumGoroutine")=false)(hb:fn.body=some c)(args:Array Value)(w:World):(callFunc f args).run P w=.ok (.enter f args) w:=by
 have h1:fn.name≠ "runtime.NumGoroutine":=by simpa using hname
 simp[callFunc,hf,h1,hb]
def plOk(k:Nat):Nat->List (Nat×Nat)->Bool
 |_,[]=>true
 |i,(p,q)::r=>Nat.beq p (i*k)&&Nat.beq q k&&plOk k (i+1) r
theorem IL{k:Nat}:∀{pl:List (Nat×Nat)}{j:Nat},plOk k j pl=true->∀i p,nth pl i=some p->p=((j+i)*k,k)
 |[],_,_,i,p,h=>by simp[nth]at h
 |(a,b)::r,j,hp,0,p,h=>by
  simp only[plOk,Bool.and_eq_true]at hp
  simp only[nth,Option.some.injEq]at h
  rw[<-h,Nat.eq_of_beq_eq_true hp.1.1,Nat.eq_of_beq_eq_true hp.1.2,Nat.add_zero]
 |(a,b)::r,j,hp,i+1,p,h=>by
  simp only[plOk,Bool.and_eq_true]at hp
  simp only[nth]at h
  rw[IL hp.2 i p h,show j+1+i=j+(i+1) by omega]
theorem Jd{pl:List (Nat×Nat)}{place:Nat->Option (Nat×Nat)}(hpl:∀i p,nth pl i=some p->place i=some p):∀(ps:List (Nat×Value)) (cs:Array Value) (out:List Value),fillL pl cs.toList ps=some out->Instr.fill place cs ps=some out.toArray
 |[],cs,out,h=>by
  simp only[fillL,Option.some.injEq]at h
  subst h
  simp[Instr.fill]
 |(i,v)::r,cs,out,h=>by
  unfold fillL at h
  unfold Instr.fill
  split at h
  ·cases h
  ·rename_i p hp
   simp only[hpl i p hp]
   split at h
   ·rename_i hc
    simp only[Bool.and_eq_true]at hc
    have h1:v.cells.size=p.2:=by have:=Nat.eq_of_beq_eq_true hc.1;simpa using this
    have h2:p.1+p.2<=cs.size:=by have:=Nat.le_of_ble_eq_true hc.2;simpa using this
    obtain⟨po,ps⟩:=p
    simp only at h1 h2 h ⊢
    rw[if_neg (by simp[h1];omega)]
    refine Jd hpl r _ out ?_
    rw[<-Array.foldl_toList,Array.toList_zipIdx,foldl_set,Nat.add_zero]
    exact h
   ·cases h
theorem xZ{pl:List (Nat×Nat)}{zl:List Value}{ps:List (Nat×Operand)}{vs:List (Nat×Value)}{pa:Array (Nat×Operand)}{len k:Nat}(hop:o.op=.build T pa)(qj:pa=ps.toArray)(hu:P.underlying T=some (.array len E))(hz:(P.info? T).map (·.zero)=some (some (.agg zl.toArray)))
  (hk:(P.info? E).map (·.size)=some k)(hpl:plOk k 0 pl=true)(hps:partL L ps=some vs)(hl:fillL pl zl vs=some l):Run P o L w (.agg l.toArray) w:=by
 intro n c he
 subst qj
 unfold execOp
 have e:=EN he hps
 have hf:=Jd (pl:=pl) (place:=fun i=>some (i*k,k)) (fun i p hp=>by rw[IL hpl i p hp,Nat.zero_add]) vs zl.toArray l (by simpa using hl)
 simp only[hop,Instr.build,Aw hz,run_underlying hu,run_sizeOf hk,Sem.run_bind,Sem.run_pure,Result.andThen_ok,List.map_toArray,e]
 rw[show Value.cells (.agg zl.toArray)=zl.toArray from rfl,hf]
 rfl
theorem am9(xs:List Int)(e:Nat)(h:e<xs.length):nth (xs.map (Value.int .i64)) e=some (.int .i64 (ga xs e)):=by
 rw[dc,List.getElem?_map,acO h];rfl
theorem aaq{cs:List Value}{e len:Nat}{dd:TypeDesc}(hop:o.op=.index T x y)(hx:oev L x=some (.agg cs.toArray))(hy:oev L y=some (.int .i64 a))(hu:P.underlying T=some (.array len E))(hE:P.underlying E=some dd)(hf:wX dd=true)(hk:(P.info? E).map (·.size)=some 1)
  (ha:a=(e:Int))(he:e<len)(hv:nth cs e=some v):Run P o L w v w:=by
 intro n c hc
 unfold execOp
 rw[dc]at hv
 have hv':cs.toArray[e]? =some v:=by simpa using hv
 have h1:(0:Int)<=(e:Int)/\(e:Int)<(len:Int):=by omega
 simp only[hop,hc.eval hx,hc.eval hy,Instr.index,asIntOf,Sem.run_bind,Sem.run_pure,Result.andThen_ok,run_underlying hu,ha,h1,and_self,if_true,run_sizeOf hk,Int.toNat_natCast,part,Ey hE,hf,Bool.not_true,Bool.false_eq_true,if_false,Nat.mul_one,hv']
theorem rN{bo:Nat}{e k len:Nat}(hop:o.op=.indexAddr T x y)(hx:oev L x=some (.pointer (some ⟨g,bo,none⟩)))(hy:oev L y=some (.int .i64 a))(hu:P.underlying T=some (.array len E))(hk:(P.info? E).map (·.size)=some k)
  (ha:a=(e:Int))(he:e<len):Run P o L w (.pointer (some ⟨g,bo+e*k,none⟩)) w:=by
 intro n c he'
 unfold execOp
 have h1:(0:Int)<=(e:Int)/\(e:Int)<(len:Int):=by omega
 simp only[hop,he'.eval hx,he'.eval hy,Instr.indexAt,asIntOf,Instr.sureAddr,Sem.run_bind,Sem.run_pure,Result.andThen_ok,run_underlying hu,ha,h1,and_self,if_true,run_sizeOf hk,Int.toNat_natCast,Jk]
end
def X0(W:World):Fr:=⟨fun _=>none,W⟩
theorem SH.start(W:World):SH W (hp W) (X0 W) []:=
 ⟨Hp.le_refl _,(fun b o e=>by cases e),(fun b o e=>by cases e),(fun s hs=>by cases hs),(fun s hs=>by cases hs),(fun i j r s _ hr=>by simp at hr),gB.refl W⟩
theorem SH.below{W w:World}{M:Hp}(h:(hp W).le M)(S:SH w M (X0 W) []):Below W.heap.size W w:=by
 refine⟨S.like.os,S.like.tape,S.like.output,S.like.size,fun k hk=>?_⟩
 have e:hp W k=some W.heap[k]:=Array.getElem?_eq_getElem hk
 have:=S.m k _ (h k _ e)
 unfold hp at this e
 rw[this,e]
theorem ajg{P:Program}{f:FuncId}{vs:List Value}{W:World}(h:Ct P f vs W (hp W) (X0 W) (fun u _=>u=.bool true)):Calls P f vs.toArray W fun e W'=>e=.returned (.bool true)/\Below W.heap.size W W':=by
 refine h.mono ?_
 rintro e w' ⟨u,rfl,M',hle,S,rfl⟩
 exact⟨rfl,S.below hle⟩
end Go.Proofs.YthppkofceancjaaGreat
namespace Go.Proofs.YthppkofceancjaaGreat
open Go.ChangeShapes Go.WideShapes Go.ChangeAt Go.RowKit
def Kp(w w':World):Prop:=Below w.heap.size w w'
theorem Kp.refl(w:World):Kp w w:=Below.refl _ _
theorem Kp.trans{a b c:World}(h:Kp a b)(k:Kp b c):Kp a c:=Below.trans h (Below.mono k (Below.size h))
theorem Kp.size{a b:World}(h:Kp a b):a.heap.size<=b.heap.size:=Below.size h
theorem Kp.below{a b:World}(h:Kp a b):Below a.heap.size a b:=h
theorem Kp.drew{a w:World}(h:Kp a w):Kp a w.drew:=Below.drew h
theorem Kp.alloc{a w:World}(h:Kp a w)(o:Obj):Kp a (w.alloc o):=Below.alloc h (Below.size h) o
theorem Kp.setCell{a w:World}(h:Kp a w){p:Addr}(hp:a.heap.size<=p.block)(u:Value):Kp a (w.setCell p u):=Below.setCell h hp u
theorem Kp.grown{a w w':World}{row:Option Nat}(h:Kp a w)(hg:w.grownBy w' row)(hr:∀k,row=some k->a.heap.size<=k):Kp a w':=Below.grown h hg (Below.size h) hr
def Sl(w:World)(B k u8:Nat)(A:Option Addr)(n:Nat)(xs:List Value):Prop:=
 xs.length=n*k/\n*u8<=140737488355328/\(0<n->∃b off,A=some ⟨b,off,none⟩/\b<B/\∀j u,xs[j]? =some u->w.cell? ⟨b,off+j,none⟩=some u)
section
variable {w w' : World} {B B' k u8 n : Nat} {A : Option Addr} {xs : List Value}
theorem Sl.len(h:Sl w B k u8 A n xs):xs.length=n*k:=h.1
theorem Sl.bN:Sl w B k u8 A 0 []:=⟨by simp,by simp,fun h=>absurd h (by omega)⟩
theorem Sl.at_(h:Sl w B k u8 A n xs)(hn:0<n):∃b off,A=some ⟨b,off,none⟩/\b<B/\∀j u,xs[j]? =some u->w.cell? ⟨b,off+j,none⟩=some u:=h.2.2 hn
theorem Sl.keep(h:Sl w B k u8 A n xs)(hk:∀p:Addr,p.block<B->w'.cell? p=w.cell? p):Sl w' B k u8 A n xs:=
 ⟨h.1,h.2.1,fun hn=>by
  obtain⟨b,off,e,hb,hc⟩:=h.2.2 hn
  exact⟨b,off,e,hb,fun j u hu=>(hk _ hb).trans (hc j u hu)⟩⟩
theorem Sl.mono(h:Sl w B k u8 A n xs)(hB:B<=B'):Sl w B' k u8 A n xs:=
 ⟨h.1,h.2.1,fun hn=>by
  obtain⟨b,off,e,hb,hc⟩:=h.2.2 hn
  exact⟨b,off,e,by omega,hc⟩⟩
theorem Sl.below(h:Sl w B k u8 A n xs)(hb:Below B w w'):Sl w' B k u8 A n xs:=h.keep fun _ hp=>hb.cell hp
theorem Sl.J3{base:Nat}{e:TypeId}{c:Nat}(h:w.ownsRow base e k (.slice A n c) n xs)(hr:n*u8<=140737488355328):Sl w w.heap.size k u8 A n xs:=by
 refine⟨h.1,hr,fun hn=>?_⟩
 rcases h.2 with⟨_,h0⟩|⟨g,cap,cur,hv,_,hh,_⟩
 ·omega
 ·injection hv with hA
  subst hA
  have hlt:=(h.lt g rfl).2
  refine⟨g,0,rfl,hlt,fun j u hu=>?_⟩
  have:=h.cells (g:=g) rfl j u hu
  rwa [Addr.add_lit]at this
end
def gi(xs:List Int)(i:Nat):Int:=xs.getD i 0
theorem Lv{xs:List Int}{i:Nat}(h:i<xs.length):gi xs i=xs[i]:=by simp[gi,h]
theorem acM{xs:List Int}{i:Nat}(h:i<xs.length):xs[i]? =some (gi xs i):=by simp[gi,h]
def iv(x:Int):Value:=.int .i64 x
def oH(w:World)(B:Nat)(A:Option Addr)(xs:List Int):Prop:=Sl w B 1 8 A xs.length (xs.map iv)
def Ints(w:World)(B:Nat)(v:Value)(xs:List Int):Prop:=∃A c,v=.slice A xs.length c/\xs.length<=c/\oH w B A xs
section
variable {w w' : World} {B B' : Nat} {A : Option Addr} {v : Value} {xs : List Int}
theorem oH.mono(h:oH w B A xs)(hB:B<=B'):oH w B' A xs:=Sl.mono h hB
theorem oH.below(h:oH w B A xs)(hb:Below B w w'):oH w' B A xs:=Sl.below h hb
theorem oH.at_(h:oH w B A xs){i:Nat}(hi:i<xs.length):∃b off,A=some ⟨b,off,none⟩/\b<B/\w.cell? ⟨b,off+i,none⟩=some (.int .i64 (gi xs i)):=by
 obtain⟨b,off,e,hb,hc⟩:=Sl.at_ h (by omega)
 exact⟨b,off,e,hb,hc i _ (by rw[List.getElem?_map,acM hi];rfl)⟩
theorem oH.bN:oH w B A []:=Sl.bN
theorem Ints.mono(h:Ints w B v xs)(hB:B<=B'):Ints w B' v xs:=by
 obtain⟨A,c,e,hc,h⟩:=h
 exact⟨A,c,e,hc,h.mono hB⟩
theorem Ints.below(h:Ints w B v xs)(hb:Below B w w'):Ints w' B v xs:=by
 obtain⟨A,c,e,hc,h⟩:=h
 exact⟨A,c,e,hc,h.below hb⟩
theorem Ints.J3{base:Nat}{e:TypeId}(h:w.ownsRow base e 1 v xs.length (xs.map iv))(hr:xs.length*8<=140737488355328):Ints w w.heap.size v xs:=by
 have h':=h
 rcases h.2 with⟨rfl,h0⟩|⟨g,cap,cur,rfl,_,_,hle,_⟩
 ·refine⟨none,0,by rw[h0],by omega,?_⟩
  unfold oH
  rw[h0]
  obtain rfl:xs=[]:=List.eq_nil_of_length_eq_zero h0
  exact Sl.bN
 ·exact⟨_,cap,rfl,hle,Sl.J3 h' hr⟩
end
section
variable {H : Type} {enc : TypeId × Value → H} {P : Program} {w : World}
end
def Ec(P:Program)(T E:TypeId)(k u8:Nat)(z:Value):Prop:=
 P.underlying T=some (.slice E)/\(P.info? E).map (fun i=>(i.zero,i.size,i.bytes))=some (some z,k,u8)/\z.cells.size=k/\0<k/\0<u8
abbrev Gr(w w':World)(row:Option Nat):Prop:=w.grownBy w' row
theorem JE(w:World)(row:Option Nat):Gr w w row:=⟨rfl,rfl,rfl,Nat.le_refl _,fun _ _ _=>rfl⟩
theorem akt{a b:World}(h:Kp a b)(row:Option Nat):Gr a b row:=⟨h.os,h.tape,h.output,h.size,fun i hi _=>h.block i hi⟩
theorem adz{w w':World}{base:Nat}{e:TypeId}{k n:Nat}{v:Value}{xs:List Value}(h:w.ownsRow base e k v n xs)(hk:Kp w w'):w'.ownsRow base e k v n xs:=
 h.kept (akt hk none) (by cases hb:v.ownBlock<;>simp)
theorem aiw{n u8:Nat}(h0:0<u8)(h:n*u8<=140737488355328):n<=maxLen:=by
 have:n*1<=n*u8:=Nat.mul_le_mul_left n h0
 unfold maxLen
 omega
theorem air{P:Program}{w:World}{ops:Array Oper}{rest:List Oper}{o:Oper}{a:Act}{Q:Exit->Act->World->Prop}{T E:TypeId}{k u8:Nat}{z:Value}(hT:Ec P T E k u8 z)
  (hgd:o.guard=none)(s x:Operand)(ho:o.op=.call {callee:=.builtin .append,args:=#[s,x],argTypes:=#[T,T]})
  {base:Nat}{v:Value}{n:Nat}{xs:List Value}(hown:w.ownsRow base E k v n xs)(hs:a.eval s=v){B:Nat}{A:Option Addr}{m c:Nat}{news:List Value}(hx:a.eval x=.slice A m c)
  (hsl:Sl w B k u8 A m news)(h1:∀u∈news,u.oneCell'=true)(hr:(n+m)*u8<=140737488355328)(hbase:base<=w.heap.size)
  (h:∀v' w',w'.ownsRow base E k v' (n+m) (xs++news)->Gr w w' v.ownBlock->(v'.ownBlock=v.ownBlock\/v'.ownBlock=some w.heap.size)->wpList P ops Q rest (a.put o.dst v') w'):
  wpList P ops Q (o::rest) a w:=by
 obtain⟨ht,hinfo,hzs,hsz,h8⟩:=hT
 obtain⟨i,hi,hz,hsize,hby⟩:=info_parts hinfo
 have key:∃v' w',(Builtin.append_ #[T,T] o.type #[v,.slice A m c]).run P w=.ok v' w'/\w'.ownsRow base E k v' (n+m) (xs++news)/\Gr w w' v.ownBlock/\(v'.ownBlock=v.ownBlock\/v'.ownBlock=some w.heap.size):=by
  rcases A with _|ad
  ·have hm:m=0:=by
    rcases Nat.eq_zero_or_pos m with h0|h0
    ·exact h0
    ·obtain⟨b,off,h,_⟩:=hsl.at_ h0
     cases h
   subst hm
   have hn:news=[]:=List.eq_nil_of_length_eq_zero (by simpa using hsl.len)
   subst hn
   refine⟨v,w,?_,by simpa using hown,JE _ _,.inl rfl⟩
   rcases hown.2 with⟨rfl,rfl⟩|⟨g,cap,cur,rfl,_,_,hnc,_⟩
   ·simp[Builtin.append_,run_underlying ht,sizeOf,typeInfo,hi,Builtin.lenOf,Builtin.firstCells]
   ·simp[Builtin.append_,run_underlying ht,sizeOf,typeInfo,hi,Builtin.lenOf,Builtin.firstCells,hnc,storeCells]
  ·have hcells:∀j u,news[j]? =some u->w.cell? (ad.add j)=some u:=by
    intro j u hu
    rcases Nat.eq_zero_or_pos m with h0|h0
    ·subst h0
     have hn:news=[]:=List.eq_nil_of_length_eq_zero (by simpa using hsl.len)
     subst hn
     simp at hu
    ·obtain⟨b,off,h,_,hc⟩:=hsl.at_ h0
     injection h with h
     subst h
     rw[Addr.add_lit]
     exact hc j u hu
   obtain⟨v',w',hrun,r1,r2,_,r3⟩:=run_append_own_at (P:=P) w base T o.type E i z k u8 ht hi hz hsize hby hzs hsz v n xs hown ad m c news hsl.len hcells h1 (aiw h8 hr) hr hbase
   exact⟨v',w',hrun,r1,r2,r3⟩
 obtain⟨v',w',hrun,r1,r2,r3⟩:=key
 refine wpList_plain hgd fun _ hK=>?_
 unfold Oper.wp execOp
 simp only[ho,resolve,invoke,builtin,Sem.run_bind,Sem.run_pure,Result.andThen_ok,List.map_toArray,List.map_cons,List.map_nil,hs,hx,hrun]
 exact hK _ _ (h v' w' r1 r2 r3)
theorem acy(w:World)(base:Nat)(e:TypeId)(k:Nat):w.ownsRow base e k (.slice none 0 0) 0 []:=World.ownsRow_nil w base e k
def fD(w:World)(base:Nat)(v:Value)(xs:List Int):Prop:=w.ownsRow base 3 1 v xs.length (xs.map iv)
section
variable {w w' : World} {base : Nat} {v : Value} {xs : List Int} {g cap : Nat}
theorem fD.bN:fD w base (.slice none 0 0) []:=acy w base _ 1
theorem fD.uJ{A:Option Addr}{n:Nat}(h:fD w base (.slice A n cap) xs):n=xs.length:=by
 rcases h.2 with⟨h1,h2⟩|⟨g,c,cur,h1,_⟩
 ·injection h1 with _ h3;omega
 ·injection h1
theorem fD.cell{n:Nat}(h:fD w base (.slice (some ⟨g,0,none⟩) n cap) xs){i:Nat}(hi:i<xs.length):w.cell? ⟨g,i,none⟩=some (.int .i64 (gi xs i)):=by
 obtain rfl:=h.uJ
 rw[World.ownsRow.cellAt h i (by omega),List.getElem?_map,acM hi];rfl
theorem fD.free{n:Nat}(h:fD w base (.slice (some ⟨g,0,none⟩) n cap) xs)(i:Nat):w.frozen? ⟨g,i,none⟩=false:=by
 obtain rfl:=h.uJ
 exact World.ownsRow.frozenAt h i
theorem fD.afa{n:Nat}(h:fD w base (.slice (some ⟨g,0,none⟩) n cap) xs)(i:Nat)(y:Int):
  fD (w.setCell ⟨g,i,none⟩ (.int .i64 y)) base (.slice (some ⟨g,0,none⟩) n cap) (xs.set i y):=by
 obtain rfl:=h.uJ
 unfold fD
 rw[List.length_set,List.map_set]
 exact(World.ownsRow.stored h i (iv y)).1
theorem fD.kp(h:fD w base v xs)(hk:Kp w w'):fD w' base v xs:=adz h hk
theorem fD.lt(h:fD w base v xs):∀k,v.ownBlock=some k->base<=k/\k<w.heap.size:=World.ownsRow.lt h
end
theorem aoX:Ec Tryz.prog 53 3 1 8 (.int .i64 0):=⟨cI,by kernel_rfl,rfl,by omega,by omega⟩
theorem an9(xs:List Int)(i j:Nat)(y:Int)(h:i<xs.length):gi (xs.set i y) j=if i=j then y else gi xs j:=by
 unfold gi
 rw[List.getD_eq_getElem?_getD,List.getD_eq_getElem?_getD,List.getElem?_set]
 by_cases hij:i=j
 ·subst hij;simp[h]
 ·simp[hij]
theorem adQ{xs ys:List Int}(hl:xs.length=ys.length)(h:∀i,i<xs.length->gi xs i=gi ys i):xs=ys:=by
 apply List.ext_getElem hl
 intro i h1 h2
 have:=h i h1
 rwa [Lv h1,Lv h2]at this
theorem IG{a b:World}{g:Nat}(h:Gr a b (some g))(i:Nat)(u:Value):Gr a (b.setCell ⟨g,i,none⟩ u) (some g):=
 ⟨h.os,h.tape,h.output,by simpa[World.setCell]using h.size,fun k hk hn=>(Below.heap_setCell b ⟨g,i,none⟩ u k (fun e=>hn (by rw[e]))).trans (h.block k hk hn)⟩
theorem Kp.own{a b c:World}{base:Nat}{e:TypeId}{k n:Nat}{v:Value}{xs:List Value}(h:Kp a b)(ho:b.ownsRow base e k v n xs)(hg:Gr b c v.ownBlock)(hb:a.heap.size<=base):Kp a c:=
 h.grown hg fun g hg'=>Nat.le_trans hb (ho.lt g hg').1
theorem amq{w:World}{g i:Nat}{u:Value}(h:w.cell? ⟨g,i,none⟩=some u):g<w.heap.size:=World.block_lt_of_cell? w ⟨g,i,none⟩ h
theorem Kp.c{a b:World}(h:Kp a b){g i:Nat}{u:Value}(hc:a.cell? ⟨g,i,none⟩=some u):b.cell? ⟨g,i,none⟩=some u:=(h.below.cell (p:=⟨g,i,none⟩) (amq hc)).trans hc
theorem Kp.fz{a b:World}(h:Kp a b){g i:Nat}{f:Bool}(hg:g<a.heap.size)(hc:a.frozen? ⟨g,i,none⟩=f):b.frozen? ⟨g,i,none⟩=f:=(h.below.frozen (p:=⟨g,i,none⟩) hg).trans hc
theorem Kp.al{a b:World}{o:Obj}(h:Kp (a.alloc o) b):Kp a b:=((Kp.refl a).alloc o).trans h
theorem Kp.lt{a b:World}(h:Kp a b){g:Nat}(hg:g<a.heap.size):g<b.heap.size:=Nat.lt_of_lt_of_le hg h.size
theorem Kp.cf{a b:World}(h:Kp a b){n:Nat}(hn:a.heap.size=n):(∀g i,g<n->b.cell? ⟨g,i,none⟩=a.cell? ⟨g,i,none⟩)/\(∀g i,g<n->b.frozen? ⟨g,i,none⟩=a.frozen? ⟨g,i,none⟩):=by
 subst hn
 exact⟨fun g i hg=>h.below.cell (p:=⟨g,i,none⟩) hg,fun g i hg=>h.below.frozen (p:=⟨g,i,none⟩) hg⟩
end Go.Proofs.YthppkofceancjaaGreat
namespace Go.Proofs.YthppkofceancjaaGreat
open Go.ChangeShapes Go.WideShapes Go.ChangeAt Go.RowKit
structure kP(α:Type) where
 f:α->List Value
 k:Nat
 u8:Nat
 hf:∀x,(f x).length=k
def Rd{α:Type}(C:kP α)(w:World)(B:Nat)(A:Option Addr)(xs:List α):Prop:=Sl w B C.k C.u8 A xs.length (xs.flatMap C.f)
def Rv{α:Type}(C:kP α)(w:World)(B:Nat)(v:Value)(xs:List α):Prop:=∃A c,v=.slice A xs.length c/\xs.length<=c/\Rd C w B A xs
def Ow{α:Type}(C:kP α)(E:TypeId)(w:World)(base:Nat)(v:Value)(xs:List α):Prop:=w.ownsRow base E C.k v xs.length (xs.flatMap C.f)
section
variable {α : Type} {C : kP α} {w w' : World} {B B' : Nat} {A : Option Addr} {v : Value} {xs : List α} {E : TypeId} {base : Nat}
theorem Rd.mono(h:Rd C w B A xs)(hB:B<=B'):Rd C w B' A xs:=Sl.mono h hB
theorem Rd.below(h:Rd C w B A xs)(hb:Below B w w'):Rd C w' B A xs:=Sl.below h hb
theorem Rd.kp(h:Rd C w w.heap.size A xs)(k:Kp w w'):Rd C w' w'.heap.size A xs:=(h.below k.below).mono k.size
theorem Rd.room(h:Rd C w B A xs):xs.length*C.u8<=140737488355328:=h.2.1
theorem Rd.bN:Rd C w B A []:=Sl.bN
theorem Rd.at_ [Inhabited α](h:Rd C w B A xs){i:Nat}(hi:i<xs.length):∃b off,A=some ⟨b,off,none⟩/\b<B/\∀j u,j<C.k->(C.f (ga xs i))[j]? =some u->w.cell? ⟨b,off+(i*C.k+j),none⟩=some u:=by
 obtain⟨b,off,e,hb,hc⟩:=Sl.at_ h (by omega)
 exact⟨b,off,e,hb,fun j u hj hu=>hc _ u (by rw[mv C.hf hi hj,<-bV hi];exact hu)⟩
theorem Rv.mono(h:Rv C w B v xs)(hB:B<=B'):Rv C w B' v xs:=by
 obtain⟨A,c,e,hc,h⟩:=h
 exact⟨A,c,e,hc,h.mono hB⟩
theorem Rv.below(h:Rv C w B v xs)(hb:Below B w w'):Rv C w' B v xs:=by
 obtain⟨A,c,e,hc,h⟩:=h
 exact⟨A,c,e,hc,h.below hb⟩
theorem Ow.bN:Ow C E w base (.slice none 0 0) []:=acy w base E C.k
theorem Ow.kp(h:Ow C E w base v xs)(hk:Kp w w'):Ow C E w' base v xs:=adz h hk
theorem Ow.lt(h:Ow C E w base v xs):∀k,v.ownBlock=some k->base<=k/\k<w.heap.size:=World.ownsRow.lt h
theorem Ow.kept{row:Option Nat}(h:Ow C E w base v xs)(hg:Gr w w' row)(hne:v.ownBlock=none\/v.ownBlock≠row):Ow C E w' base v xs:=World.ownsRow.kept h hg hne
theorem Ow.sl(h:Ow C E w base v xs):∃A c,v=.slice A xs.length c/\xs.length<=c:=by
 rcases h.2 with⟨rfl,h1⟩|⟨g,cap,cur,rfl,hg,_,hle,_⟩
 ·exact⟨none,0,by rw[h1],by omega⟩
 ·exact⟨_,cap,rfl,hle⟩
theorem Ow.uJ{n c:Nat}(h:Ow C E w base (.slice A n c) xs):n=xs.length:=by
 rcases h.2 with⟨h1,h2⟩|⟨g,c,cur,h1,_⟩
 ·injection h1 with _ h3;omega
 ·injection h1
theorem Ow.cell [Inhabited α]{g n c:Nat}(h:Ow C E w base (.slice (some ⟨g,0,none⟩) n c) xs){i:Nat}(hi:i<xs.length){j:Nat}{u:Value}(hj:j<C.k)(hu:(C.f (ga xs i))[j]? =some u):w.cell? ⟨g,i*C.k+j,none⟩=some u:=by
 obtain rfl:=h.uJ
 have hlt:i*C.k+j<xs.length*C.k:=by
  have:=Nat.mul_le_mul_right C.k (show i+1<=xs.length by omega)
  rw[Nat.succ_mul]at this
  omega
 rw[World.ownsRow.cellAt h _ hlt,mv C.hf hi hj,<-bV hi,hu]
theorem Ow.free{g n c:Nat}(h:Ow C E w base (.slice (some ⟨g,0,none⟩) n c) xs)(i:Nat):w.frozen? ⟨g,i,none⟩=false:=by
 obtain rfl:=h.uJ
 exact World.ownsRow.frozenAt h i
end
structure Cr where
 a:Int
 b:Int
 c:Int
 d:Int
 plus:Bool
instance :Inhabited Cr:=⟨⟨0,0,0,0,false⟩⟩
def qx(x:Cr):List Value:=[.int .i64 x.a,.int .i64 x.b,.int .i64 x.c,.int .i64 x.d,.bool x.plus]
def kr:kP Cr:=⟨qx,5,40,fun _=>rfl⟩
def zU(x:Cr):Value:=.agg #[.int .i64 x.a,.int .i64 x.b,.int .i64 x.c,.int .i64 x.d,.bool x.plus]
theorem Mw{w:World}{B:Nat}{A:Option Addr}{xs:List Cr}(h:Rd kr w B A xs){i:Nat}(hi:i<xs.length):∃b off,A=some ⟨b,off,none⟩/\b<B/\
  w.cell? ⟨b,off+i*5,none⟩=some (.int .i64 (ga xs i).a)/\w.cell? ⟨b,off+i*5+1,none⟩=some (.int .i64 (ga xs i).b)/\
  w.cell? ⟨b,off+i*5+2,none⟩=some (.int .i64 (ga xs i).c)/\w.cell? ⟨b,off+i*5+3,none⟩=some (.int .i64 (ga xs i).d)/\
  w.cell? ⟨b,off+i*5+4,none⟩=some (.bool (ga xs i).plus):=by
 obtain⟨b,off,e,hb,hc⟩:=h.at_ hi
 exact⟨b,off,e,hb,hc 0 _ (by decide) rfl,hc 1 _ (by decide) rfl,hc 2 _ (by decide) rfl,hc 3 _ (by decide) rfl,hc 4 _ (by decide) rfl⟩
structure Dg where
 ae:List Cr
 loops:Int
def nM(w:World)(B:Nat)(v:Value)(d:Dg):Prop:=∃A c,v=.agg #[.slice A d.ae.length c,.int .i64 d.loops]/\d.ae.length<=c/\Rd kr w B A d.ae
theorem zH{b n:Nat}(h:b<n):b<n/\b<n+1/\b<n+2/\b<n+3/\b<n+4:=by omega
def br(w:World)(g:Nat)(t:TypeId)(cs:Array Value):Prop:=w.heap[g]? =some (.cells cs t (0,0))
section
variable {w w' : World} {g : Nat} {t : TypeId} {cs : Array Value}
theorem br.lt(h:br w g t cs):g<w.heap.size:=by
 rcases Nat.lt_or_ge g w.heap.size with hlt|hge
 ·exact hlt
 ·unfold br at h;rw[Array.getElem?_eq_none hge]at h;cases h
theorem br.cell(h:br w g t cs)(i:Nat){u:Value}(hu:cs[i]? =some u):w.cell? ⟨g,i,none⟩=some u:=by rw[cell_of_row w g i cs t (0,0) h,hu]
theorem br.free(h:br w g t cs)(i:Nat):w.frozen? ⟨g,i,none⟩=false:=frozen_of_row w g i cs t h
theorem br.new(w:World)(t:TypeId)(cs:Array Value):br (w.alloc (.cells cs t)) w.heap.size t cs:=heap_alloc_new w _
theorem br.new'(w:World)(t:TypeId)(cs:Array Value){n:Nat}(hn:w.heap.size=n):br (w.alloc (.cells cs t)) n t cs:=by subst hn;exact heap_alloc_new w _
theorem br.drew(h:br w g t cs):br w.drew g t cs:=h
theorem br.alloc(h:br w g t cs)(o:Obj):br (w.alloc o) g t cs:=(Below.heap_alloc w o g h.lt).trans h
theorem br.far(h:br w g t cs){p:Addr}(hp:g≠p.block)(u:Value):br (w.setCell p u) g t cs:=(Below.heap_setCell w p u g hp).trans h
theorem br.kp(h:br w g t cs)(hk:Kp w w'):br w' g t cs:=(hk.block g h.lt).trans h
theorem br.gr{row:Option Nat}(h:br w g t cs)(hg:Gr w w' row)(hne:some g≠row):br w' g t cs:=(hg.block g h.lt hne).trans h
end
theorem br.two{w:World}{g:Nat}{t:TypeId}{x y:Value}(h:br w g t #[x,y]):w.cell? ⟨g,0,none⟩=some x/\w.cell? ⟨g,1,none⟩=some y/\w.frozen? ⟨g,0,none⟩=false/\w.frozen? ⟨g,1,none⟩=false:=
 ⟨h.cell 0 rfl,h.cell 1 rfl,h.free 0,h.free 1⟩
theorem acF{P:Program}{T E:TypeId}{k u8:Nat}{z:Value}(hT:Ec P T E k u8 z)(n:Nat)(x:Int)(hx:x=(n:Int))(hb:n*u8<=140737488355328)(w:World):
  (Instr.makeSlice T (.int .i64 x) (.int .i64 x)).run P w=.ok (.slice (some ⟨w.heap.size,0,none⟩) n n) (w.alloc (.cells (madeCells z.cells (n*k)) E)):=by
 subst hx
 obtain⟨ht,hinfo,hzs,hsz,h8⟩:=hT
 obtain⟨i,hi,hz,hsize,hby⟩:=info_parts hinfo
 have h1:n*1<=n*u8:=Nat.mul_le_mul_left n h8
 have hr:=run_make (P:=P) w T E i z ht hi hz .i64 .i64 (n:Int) (n:Int) (by omega) (by omega) (by
  rw[hby]
  have h:((u8*n:Nat):Int)<=140737488355328:=by rw[Nat.mul_comm];omega
  rw[Int.natCast_mul]at h
  omega) (by omega)
 rw[hsize]at hr
 simpa using hr
theorem aiI{α:Type}(C:kP α)(y:α)(z:Value)(hz:z.cells.toList=C.f y)(n:Nat):(madeCells z.cells (n*C.k)).toList=(List.replicate n y).flatMap C.f:=by
 have hk:z.cells.size=C.k:=by rw[<-C.hf y,<-hz];simp
 apply List.ext_getElem?
 intro m
 by_cases hm:m<n*C.k
 ·have iJ:0<C.k:=by
   rcases Nat.eq_zero_or_pos C.k with h|h
   ·rw[h,Nat.mul_zero]at hm;omega
   ·exact h
  have hi:m/C.k<(List.replicate n y).length:=by rw[List.length_replicate];exact(Nat.div_lt_iff_lt_mul iJ).2 hm
  have hj:m%C.k<C.k:=Nat.mod_lt _ iJ
  have e:=mv C.hf hi hj
  rw[show m/C.k*C.k+m%C.k=m by rw[Nat.mul_comm];exact Nat.div_add_mod m C.k]at e
  rw[e,List.getElem_replicate,<-hz]
  simp only[madeCells,hk,Array.toList_map,Array.toList_range,List.getElem?_map,List.getElem?_range hm,Option.map_some]
  rw[Array.getElem!_eq_getD]
  simp[hk,hj]
 ·rw[List.getElem?_eq_none,List.getElem?_eq_none]
  ·rw[kK C.hf,List.length_replicate];omega
  ·simp[madeCells];omega
theorem Ow.am8{α:Type}{C:kP α}{E:TypeId}{w:World}{g base:Nat}{cs:Array Value}{xs:List α}(h:br w g E cs)(hcs:cs.toList=xs.flatMap C.f)(hb:base<=g)(hm:xs.length<=maxLen):
  Ow C E w base (.slice (some ⟨g,0,none⟩) xs.length xs.length) xs:=by
 have hl:=kK C.hf xs
 refine⟨hl,.inr ⟨g,xs.length,cs,rfl,hb,h,Nat.le_refl _,hm,by rw[<-hl,<-hcs];simp,?_⟩⟩
 rw[hcs,<-hl,List.take_length]
theorem Ow.made{α:Type}{C:kP α}{E:TypeId}{w:World}{g base n:Nat}{y:α}{z:Value}(hz:z.cells.toList=C.f y)(h:br w g E (madeCells z.cells (n*C.k)))(hb:base<=g)(hm:n<=maxLen):
  Ow C E w base (.slice (some ⟨g,0,none⟩) n n) (List.replicate n y):=by
 have:=Ow.am8 (C:=C) (xs:=List.replicate n y) h (aiI C y z hz n) hb (by simpa using hm)
 simpa using this
def CM:kP Int:=⟨fun x=>[iv x],1,8,fun _=>rfl⟩
theorem acS(xs:List Int):xs.flatMap CM.f=xs.map iv:=by
 induction xs with
 |nil=>rfl
 |cons x xs ih=>rw[List.flatMap_cons,ih];rfl
theorem fD.aez{w:World}{base:Nat}{v:Value}{xs:List Int}(h:Ow CM 3 w base v xs):fD w base v xs:=by
 unfold fD
 rw[<-acS]
 exact h
theorem Kp.alt{w w1:World}{o:Obj}(h:Kp (w.alloc o) w1):w.heap.size<w1.heap.size:=by
 have:=h.size
 simp at this
 omega
theorem Ow.base{α:Type}{C:kP α}{E:TypeId}{w:World}{b b':Nat}{v:Value}{xs:List α}(h:Ow C E w b v xs)(hb:b'<=b):Ow C E w b' v xs:=by
 rcases h with⟨h1,h2|⟨g,cap,cur,r1,r2,r3⟩⟩
 ·exact⟨h1,.inl h2⟩
 ·exact⟨h1,.inr ⟨g,cap,cur,r1,by omega,r3⟩⟩
theorem Ow.lh{α β:Type}{C:kP α}{C':kP β}{E E':TypeId}{w:World}{b b':Nat}{v v':Value}{xs:List α}{ys:List β}(h:Ow C E w b v xs)(h':Ow C' E' w b' v' ys)(hne:E≠E'):v.ownBlock=none\/v.ownBlock≠v'.ownBlock:=by
 rcases h.2 with⟨rfl,_⟩|⟨g,cap,cur,rfl,_,hh,_⟩
 ·exact .inl rfl
 ·rcases h'.2 with⟨rfl,_⟩|⟨g',cap',cur',rfl,_,hh',_⟩
  ·exact .inr (by simp[Value.ownBlock])
  ·refine .inr fun e=>?_
   simp only[Value.ownBlock,Option.some.injEq]at e
   subst e
   rw[hh]at hh'
   injection hh' with h1
   injection h1 with _ h2
   exact hne h2
theorem Ow.Fq{α:Type}{C:kP α}{E t:TypeId}{w:World}{b g:Nat}{v:Value}{xs:List α}{cs:Array Value}(h:Ow C E w b v xs)(h':br w g t cs)(hne:E≠t):v.ownBlock=none\/v.ownBlock≠some g:=by
 rcases h.2 with⟨rfl,_⟩|⟨g',cap,cur,rfl,_,hh,_⟩
 ·exact .inl rfl
 ·refine .inr fun e=>?_
  simp only[Value.ownBlock,Option.some.injEq]at e
  subst e
  unfold br at h'
  rw[hh]at h'
  injection h' with h1
  injection h1 with _ h2
  exact hne h2
theorem Ow.afb{α:Type}[Inhabited α]{C:kP α}{E:TypeId}{w:World}{base g n c:Nat}{xs:List α}(h:Ow C E w base (.slice (some ⟨g,0,none⟩) n c) xs)(hk:C.k=2){i:Nat}(hi:i<xs.length)(u0 u1:Value)(y:α)(hy:C.f y=[u0,u1]):
  Ow C E ((w.setCell ⟨g,i*2,none⟩ u0).setCell ⟨g,i*2+1,none⟩ u1) base (.slice (some ⟨g,0,none⟩) n c) (xs.set i y):=by
 obtain rfl:=h.uJ
 have hl:(C.f (ga xs i)).length=2:=by rw[C.hf,hk]
 have e1:=(World.ownsRow.stored h (i*2) u0).1
 have e2:=(World.ownsRow.stored e1 (i*2+1) u1).1
 unfold Ow
 rw[List.length_set]
 have hx:((xs.flatMap C.f).set (i*2) u0).set (i*2+1) u1=(xs.set i y).flatMap C.f:=by
  apply List.ext_getElem?
  intro m
  have hm2:m=m/2*2+m%2:=by omega
  by_cases hm:m<xs.length*2
  ·have jl:m/2<xs.length:=by omega
   have vp:m%2<C.k:=by omega
   have g1:=mv C.hf jl vp
   have g2:=mv (xs:=xs.set i y) C.hf (i:=m/2) (j:=m%2) (by rw[List.length_set];exact jl) vp
   rw[hk,<-hm2]at g1 g2
   rw[g2,List.getElem?_set,List.getElem?_set,List.length_set,kK C.hf,hk,g1]
   by_cases h1:i=m/2
   ·have e:(xs.set i y)[m/2]'(by rw[List.length_set];exact jl)=y:=by subst h1;simp
    rw[e,hy]
    rcases(show m%2=0\/m%2=1 by omega)with h2|h2
    ·rw[if_neg (by omega),if_pos (by omega),if_pos (by omega),h2];rfl
    ·rw[if_pos (by omega),if_pos (by omega),h2];rfl
   ·have e:(xs.set i y)[m/2]'(by rw[List.length_set];exact jl)=xs[m/2]:=by rw[List.getElem_set_ne (by omega)]
    rw[e,if_neg (by omega),if_neg (by omega)]
  ·rw[List.getElem?_eq_none (by rw[List.length_set,List.length_set,kK C.hf,hk];omega),List.getElem?_eq_none (by rw[kK C.hf,List.length_set,hk];omega)]
 rw[<-hx]
 exact e2
theorem acJ{w:World}{g i j:Nat}(u v:Value):Gr w ((w.setCell ⟨g,i,none⟩ u).setCell ⟨g,j,none⟩ v) (some g):=IG (IG (JE w _) i u) j v
theorem acK{w:World}{g i:Nat}(u:Value):Gr w (w.setCell ⟨g,i,none⟩ u) (some g):=IG (JE w _) i u
theorem br.cr{w:World}{g:Nat}{t:TypeId}{a b c d e:Value}(h:br w g t #[a,b,c,d,e]):w.cell? ⟨g,0,none⟩=some a/\w.cell? ⟨g,1,none⟩=some b/\w.cell? ⟨g,2,none⟩=some c/\w.cell? ⟨g,3,none⟩=some d/\w.cell? ⟨g,4,none⟩=some e:=
 ⟨h.cell 0 rfl,h.cell 1 rfl,h.cell 2 rfl,h.cell 3 rfl,h.cell 4 rfl⟩
theorem br.four{w:World}{g:Nat}{t:TypeId}{a b c d:Value}(h:br w g t #[a,b,c,d]):w.cell? ⟨g,0,none⟩=some a/\w.cell? ⟨g,1,none⟩=some b/\w.cell? ⟨g,2,none⟩=some c/\w.cell? ⟨g,3,none⟩=some d:=
 ⟨h.cell 0 rfl,h.cell 1 rfl,h.cell 2 rfl,h.cell 3 rfl⟩
end Go.Proofs.YthppkofceancjaaGreat
namespace Go.Proofs.YthppkofceancjaaGreat
open Go.ChangeShapes Go.WideShapes Go.ChangeAt Go.RowKit
def wZ(x:Cr)(k:Nat):Int:=if k=0 then x.a else if k=1 then x.b else if k=2 then x.c else x.d
def nI(x:Cr)(k:Nat):Bool:=decide (k=0\/k=1/\x.plus=false\/k=3/\x.plus=true)
def cz(d:Dg)(c k:Nat):Int:=wZ (ga d.ae c) k
def cm(d:Dg)(c k:Nat):Bool:=nI (ga d.ae c) k
def JO(n:Int)(w:World)(e:Ending)(w':World):Prop:=e=.returned (.int .i64 n)/\Kp w w'
def yN(b:Bool)(w:World)(e:Ending)(w':World):Prop:=e=.returned (.bool b)/\Kp w w'
set_option maxHeartbeats 1000000 in
theorem z6(v:Value)(d:Dg)(c k:Nat)(w:World)(hd:nM w w.heap.size v d)(hc:c<d.ae.length)(hk:k<4):
  Calls Tryz.prog 72 #[v,.agg #[.int .i64 c,.int .i64 k]] w (JO (cz d c k) w):=by
 obtain⟨A,cap,rfl,hcap,hr⟩:=hd
 have hrm:=hr.room
 obtain⟨b,off,rfl,hb,c0,c1,c2,c3,c4⟩:=Mw hr hc
 have hkk:k=0\/k=1\/k=2\/k=3:=by omega
 obtain⟨l0,l1,l2,l3,l4⟩:=zH hb
 clear hr
 rcases hkk with rfl|rfl|rfl|rfl
 all_goals
  go_enter Tryz.func72,Tryz.ntmps72
  go_wp2_with fail
  go_ret
  exact⟨rfl,(((Kp.refl _).alloc _).alloc _).alloc _⟩
set_option maxHeartbeats 2000000 in
theorem EH(v:Value)(d:Dg)(c k:Nat)(w:World)(hd:nM w w.heap.size v d)(hc:c<d.ae.length)(hk:k<4):
  Calls Tryz.prog 73 #[v,.agg #[.int .i64 c,.int .i64 k]] w (yN (cm d c k) w):=by
 obtain⟨A,cap,rfl,hcap,hr⟩:=hd
 have hrm:=hr.room
 obtain⟨b,off,rfl,hb,c0,c1,c2,c3,c4⟩:=Mw hr hc
 obtain⟨l0,l1,l2,l3,l4⟩:=zH hb
 have hkk:k=0\/k=1\/k=2\/k=3:=by omega
 clear hr c0 c1 c2 c3
 unfold cm
 generalize ga d.ae c=x at*
 obtain⟨xa,xb,xc,xd,xp⟩:=x
 dsimp only at c4
 rcases hkk with rfl|rfl|rfl|rfl
 all_goals
  cases xp
  all_goals
   go_enter Tryz.func73,Tryz.ntmps73
   go_wp2_with fail
   go_ret
   exact⟨rfl,((Kp.refl _).alloc _).alloc _⟩
def gA(d:Dg)(a:Int)(back:Bool)(j:Nat):Bool:=decide (cz d (j/4) (j%4)=a)&&(cm d (j/4) (j%4)!=back)
def aX(d:Dg)(a:Int)(back:Bool):Nat×Nat:=
 match(List.range (4*d.ae.length)).find? (gA d a back)with
 |some j=>(j/4,j%4)
 |none=>(0,0)
theorem IV{d:Dg}{a:Int}{back:Bool}{j:Nat}(hj:j<4*d.ae.length)(h:gA d a back j=true)(h0:∀i,i<j->gA d a back i=false):aX d a back=(j/4,j%4):=by
 have:(List.range (4*d.ae.length)).find? (gA d a back)=some j:=by
  rw[List.find?_range_eq_some]
  exact⟨h,by simpa using hj,fun i hi=>by simp[h0 i hi]⟩
 unfold aX
 rw[this]
theorem aay{d:Dg}{a:Int}{back:Bool}(h0:∀i,i<4*d.ae.length->gA d a back i=false):aX d a back=(0,0):=by
 have:(List.range (4*d.ae.length)).find? (gA d a back)=none:=by
  rw[List.find?_eq_none]
  intro i hi
  simp[h0 i (by simpa using hi)]
 unfold aX
 rw[this]
theorem yq{d:Dg}{a:Int}{back:Bool}{i k:Nat}(hk:k<4):gA d a back (4*i+k)=(decide (cz d i k=a)&&(cm d i k !=back)):=by
 unfold gA
 rw[show(4*i+k)/4=i by omega,show(4*i+k)%4=k by omega]
end Go.Proofs.YthppkofceancjaaGreat
namespace Go.Proofs.YthppkofceancjaaGreat
open Go.ChangeShapes Go.WideShapes Go.ChangeAt Go.RowKit
def bw:Cd Cr:=⟨qx,5,40,77,⟨0,0,0,0,false⟩,fun _=>rfl,by
 intro x u hu
 simp[qx]at hu
 rcases hu with rfl|rfl|rfl|rfl|rfl<;>rfl⟩
end Go.Proofs.YthppkofceancjaaGreat
namespace Go.Proofs.YthppkofceancjaaGreat
open Go.ChangeShapes Go.WideShapes Go.ChangeAt Go.RowKit
theorem aq8:Ec Tryz.prog 22 77 5 40 (.agg #[.int .i64 0,.int .i64 0,.int .i64 0,.int .i64 0,.bool false]):=⟨bF,by kernel_rfl,rfl,by omega,by omega⟩
theorem aom(xs:List Cr):∀u∈xs.flatMap kr.f,u.oneCell'=true:=by
 intro u hu
 obtain⟨x,_,hx⟩:=List.mem_flatMap.1 hu
 simp[kr,qx]at hx
 rcases hx with rfl|rfl|rfl|rfl|rfl<;>rfl
end Go.Proofs.YthppkofceancjaaGreat
namespace Go.Proofs.YthppkofceancjaaGreat
open Go.ChangeShapes Go.WideShapes Go.ChangeAt Go.RowKit
def cV(d:Dg)(a:Int)(back:Bool)(j:Nat):Nat:=(List.range j).countP (gA d a back)
theorem xW(d:Dg)(a:Int)(back:Bool)(j:Nat):cV d a back (j+1)=cV d a back j+if gA d a back j=true then 1 else 0:=by
 unfold cV
 rw[List.range_succ,List.countP_append,List.countP_singleton]
theorem yz(d:Dg)(a:Int)(back:Bool)(j:Nat):cV d a back j<=j:=by
 unfold cV
 have:=List.countP_le_length (p:=gA d a back) (l:=List.range j)
 simpa using this
theorem ac2{d:Dg}{a:Int}{back:Bool}{i k:Nat}(hk:k<4):
  cV d a back (4*i+(k+1))=cV d a back (4*i+k)+if cz d i k=a/\cm d i k≠back then 1 else 0:=by
 rw[<-Nat.add_assoc,xW,yq hk]
 simp
def lM(d:Dg)(a:Int):Bool:=cV d a false (4*d.ae.length)==1&&cV d a true (4*d.ae.length)==1
def iC(d:Dg):Bool:=decide (d.ae.length<=16/\0<=d.loops/\d.loops<=16/\¬(d.ae.length=0/\d.loops=0))&&(List.range (2*d.ae.length)).all fun a=>lM d ((a+1:Nat):Int)
theorem aaY{d:Dg}(h:¬(d.ae.length<=16/\0<=d.loops/\d.loops<=16/\¬(d.ae.length=0/\d.loops=0))):iC d=false:=by
 unfold iC;rw[decide_eq_false h];rfl
theorem abO{d:Dg}{a:Nat}(h0:1<=a)(h1:a<=2*d.ae.length)(h:lM d a=false):iC d=false:=by
 unfold iC
 rw[Bool.and_eq_false_iff]
 refine .inr (List.all_eq_false.2 ⟨a-1,by simp;omega,?_⟩)
 rw[show a-1+1=a by omega,h];simp
theorem aki{d:Dg}(h:d.ae.length<=16/\0<=d.loops/\d.loops<=16/\¬(d.ae.length=0/\d.loops=0))(h2:∀a:Nat,1<=a->a<=2*d.ae.length->lM d a=true):iC d=true:=by
 unfold iC
 rw[decide_eq_true h,Bool.true_and]
 refine List.all_eq_true.2 fun a ha=>h2 (a+1) (by omega) ?_
 simp at ha
 omega
set_option maxHeartbeats 2000000 in
theorem aid(v:Value)(d:Dg)(w:World)(hd:nM w w.heap.size v d)(h:¬(d.ae.length<=16/\0<=d.loops/\d.loops<=16/\¬(d.ae.length=0/\d.loops=0))):
  Calls Tryz.prog 31 #[v] w (yN false w):=by
 obtain⟨A,cap,rfl,hcap,hr⟩:=hd
 have hrm:d.ae.length*40<=140737488355328:=hr.room
 clear hr
 obtain⟨cs,loops⟩:=d
 dsimp only at*
 generalize cs.length=n at*
 by_cases h1:16<n
 ·go_enter Tryz.func31,Tryz.ntmps31
  go_wp2_with fail
  go_ret
  exact⟨rfl,(Kp.refl _).alloc _⟩
 ·by_cases h2:loops<0
  ·go_enter Tryz.func31,Tryz.ntmps31
   go_wp2_with fail
   go_ret
   exact⟨rfl,(Kp.refl _).alloc _⟩
  ·by_cases h3:16<loops
   ·go_enter Tryz.func31,Tryz.ntmps31
    go_wp2_with fail
    go_ret
    exact⟨rfl,(Kp.refl _).alloc _⟩
   ·obtain⟨rfl,rfl⟩:n=0/\loops=0:=by omega
    go_enter Tryz.func31,Tryz.ntmps31
    go_wp2_with fail
    go_ret
    exact⟨rfl,(Kp.refl _).alloc _⟩
set_option maxHeartbeats 4000000 in
theorem aie(v:Value)(d:Dg)(w:World)(hd:nM w w.heap.size v d)(h:d.ae.length<=16/\0<=d.loops/\d.loops<=16/\¬(d.ae.length=0/\d.loops=0)):
  Calls Tryz.prog 31 #[v] w (yN (iC d) w):=by
 obtain⟨A,cap,rfl,hcap,hr⟩:=hd
 have hd:∀w',Kp w w'->nM w' w'.heap.size (.agg #[.slice A d.ae.length cap,.int .i64 d.loops]) d:=fun w' hk=>⟨A,cap,rfl,hcap,hr.kp hk⟩
 have HD:=Lib.hid hd
 clear hd hr
 have Hsz:=Lib.hid h
 obtain⟨h1,h2,h3,h4⟩:=h
 have hq:¬(d.ae.length=0/\d.loops=0)->(((d.ae.length:Int)==0:Bool)=false)\/((((d.ae.length:Int)==0):Bool)=true/\((d.loops==0):Bool)=false):=by
  intro h
  by_cases h0:d.ae.length=0
  ·exact .inr ⟨by rw[beq_iff_eq];omega,by rw[beq_eq_false_iff_ne];omega⟩
  ·exact .inl (by rw[beq_eq_false_iff_ne];omega)
 have hq':=hq h4
 clear hq h4
 go_enter Tryz.func31,Tryz.ntmps31
 go_upto_region 2 with(fail)
 go_cut [33] (fun c wx=>c=.bool false/\wx=w.alloc (.cells #[.slice A d.ae.length cap,.int .i64 d.loops] 24))
 case first=>
  rcases hq' with hq'|⟨hq',aBm⟩
  ·go_wp2_with fail
   go_meet
   case rel=>exact⟨congrArg Value.bool (by simp;omega),rfl⟩
  ·go_wp2_with fail
   go_meet
   case rel=>exact⟨congrArg Value.bool (by simp;omega),rfl⟩
 case rest=>
  obtain⟨rfl,rfl⟩:=hcut
  clear hq'
  go_wp2_with fail
  go_loopw [4] (fun i wr=>∃a:Nat,1<=a/\a<=2*d.ae.length+1/\i=.int .i64 a/\Hid (∀a':Nat,1<=a'->a'<a->lM d a'=true)/\Kp w wr/\
   br wr w.heap.size 24 #[.slice A d.ae.length cap,.int .i64 d.loops]) (fun i _=>2*d.ae.length+1-(intOf i).toNat)
  case atStart=>exact⟨1,by omega,by omega,rfl,fun a h1 h2=>by omega,(Kp.refl _).alloc _,br.new _ _ _⟩
  case round=>
   obtain⟨a,ha0,ha1,rfl,hok,hk,hB⟩:=hrel
   by_cases hlt:a<=2*d.ae.length
   ·obtain⟨wo,rfl⟩:∃wo:World,wo=wr:=⟨_,rfl⟩
    have ta:decide ((a:Int)<=2*(d.ae.length:Int))=true:=by simp;omega
    go_wp2_with fail
    go_loopw [5,6,7] (fun ci co i wr=>∃n:Nat,n<=d.ae.length/\i=.int .i64 n/\ci=.int .i64 (cV d a false (4*n))/\co=.int .i64 (cV d a true (4*n))/\Kp w wr/\
     br wr w.heap.size 24 #[.slice A d.ae.length cap,.int .i64 d.loops]) (fun _ _ i _=>d.ae.length-(intOf i).toNat)
    case atStart=>exact⟨0,Nat.zero_le _,rfl,rfl,rfl,hk,hB⟩
    case round=>
     clear hk hB
     obtain⟨n,hn,rfl,rfl,rfl,hk,hB⟩:=hrel
     by_cases lV:n<d.ae.length
     ·clear wo
      obtain⟨wo,rfl⟩:∃wo:World,wo=wr:=⟨_,rfl⟩
      have cl1:=yz d a false (4*n)
      have cl2:=yz d a true (4*n)
      go_wp2_with fail
      go_loopw [5,6,8] (fun ci co i wr=>∃m:Nat,m<=4/\i=.int .i64 m/\ci=.int .i64 (cV d a false (4*n+m))/\co=.int .i64 (cV d a true (4*n+m))/\Kp w wr/\
       br wr w.heap.size 24 #[.slice A d.ae.length cap,.int .i64 d.loops]) (fun _ _ i _=>4-(intOf i).toNat)
      case atStart=>exact⟨0,Nat.zero_le _,rfl,rfl,rfl,hk,hB⟩
      case round=>
       clear hk hB cl1 cl2
       obtain⟨m,hm,rfl,rfl,rfl,hk,hB⟩:=hrel
       obtain⟨e0,e1,e2,e3⟩:=hB.two
       obtain⟨s00,s01,s02,s03,s04⟩:=zH hB.lt
       by_cases jA:m<4
       ·have c1:=ac2 (d:=d) (a:=a) (back:=false) (i:=n) jA
        have c2:=ac2 (d:=d) (a:=a) (back:=true) (i:=n) jA
        have cl1:=yz d a false (4*n+m)
        have cl2:=yz d a true (4*n+m)
        by_cases ha:cz d n m=(a:Int)
        ·have t1:((cz d n m==(a:Int)):Bool)=true:=by rw[beq_iff_eq];exact ha
         have s4:4*n+m<64:=by omega
         cases he:cm d n m
         ·rw[if_neg (by simp[he])]at c1
          rw[if_pos (by simp[ha,he])]at c2
          have c1':=Lib.hid c1
          have DJ:=Lib.hid c2
          have he':=Lib.hid he
          clear c1 c2 ha he
          go_wp2_with fail
          refine(z6 _ d n m _ (HD.out _ (hk.alloc _)) lV jA).mono ?_;rintro e w1 ⟨rfl,hk1⟩
          obtain⟨cc,cf⟩:=hk1.cf (n:=wr.heap.size+1) (by simp)
          go_wp2_with fail
          refine(EH _ d n m _ (HD.out _ ((hk.alloc _).trans hk1)) lV jA).mono ?_;rintro e w2 ⟨rfl,hk2⟩
          obtain⟨c2,f2⟩:=(hk1.trans hk2).cf (n:=wr.heap.size+1) (by simp)
          clear cc cf
          rw[he'.out]
          go_wp2_with fail
          refine(z6 _ d n m _ (HD.out _ (((hk.alloc _).trans hk1).trans hk2)) lV jA).mono ?_;rintro e w3 ⟨rfl,hk3⟩
          obtain⟨c3,f3⟩:=((hk1.trans hk2).trans hk3).cf (n:=wr.heap.size+1) (by simp)
          clear c2 f2
          go_wp2_with fail
          refine(EH _ d n m _ (HD.out _ ((((hk.alloc _).trans hk1).trans hk2).trans hk3)) lV jA).mono ?_;rintro e w4 ⟨rfl,hk4⟩
          rw[he'.out]
          go_wp2_with fail
          go_roundw
          case rel=>exact⟨m+1,by omega,by go_num,by rw[c1'.out];rfl,by rw[DJ.out];go_num,(((hk.alloc _).trans hk1).trans hk2).trans (hk3.trans hk4),(((hB.alloc _).kp hk1).kp hk2).kp (hk3.trans hk4)⟩
          case measure=>simp[intOf]<;>omega
         ·rw[if_pos (by simp[ha,he])]at c1
          rw[if_neg (by simp[he])]at c2
          have c1':=Lib.hid c1
          have DJ:=Lib.hid c2
          have he':=Lib.hid he
          clear c1 c2 ha he
          go_wp2_with fail
          refine(z6 _ d n m _ (HD.out _ (hk.alloc _)) lV jA).mono ?_;rintro e w1 ⟨rfl,hk1⟩
          obtain⟨cc,cf⟩:=hk1.cf (n:=wr.heap.size+1) (by simp)
          go_wp2_with fail
          refine(EH _ d n m _ (HD.out _ ((hk.alloc _).trans hk1)) lV jA).mono ?_;rintro e w2 ⟨rfl,hk2⟩
          obtain⟨c2,f2⟩:=(hk1.trans hk2).cf (n:=wr.heap.size+1) (by simp)
          clear cc cf
          rw[he'.out]
          go_wp2_with fail
          refine(z6 _ d n m _ (HD.out _ (((hk.alloc _).trans hk1).trans hk2)) lV jA).mono ?_;rintro e w3 ⟨rfl,hk3⟩
          obtain⟨c3,f3⟩:=((hk1.trans hk2).trans hk3).cf (n:=wr.heap.size+1) (by simp)
          clear c2 f2
          go_wp2_with fail
          refine(EH _ d n m _ (HD.out _ ((((hk.alloc _).trans hk1).trans hk2).trans hk3)) lV jA).mono ?_;rintro e w4 ⟨rfl,hk4⟩
          rw[he'.out]
          go_wp2_with fail
          go_roundw
          case rel=>exact⟨m+1,by omega,by go_num,by rw[c1'.out];go_num,by rw[DJ.out];rfl,(((hk.alloc _).trans hk1).trans hk2).trans (hk3.trans hk4),(((hB.alloc _).kp hk1).kp hk2).kp (hk3.trans hk4)⟩
          case measure=>simp[intOf]<;>omega
        ·have t1:((cz d n m==(a:Int)):Bool)=false:=by rw[beq_eq_false_iff_ne];exact ha
         rw[if_neg (by simp[ha])]at c1 c2
         have c1':=Lib.hid c1
         have DJ:=Lib.hid c2
         clear c1 c2 ha
         go_wp2_with fail
         refine(z6 _ d n m _ (HD.out _ (hk.alloc _)) lV jA).mono ?_;rintro e w1 ⟨rfl,hk1⟩
         obtain⟨cc,cf⟩:=hk1.cf (n:=wr.heap.size+1) (by simp)
         go_wp2_with fail
         refine(z6 _ d n m _ (HD.out _ ((hk.alloc _).trans hk1)) lV jA).mono ?_;rintro e w2 ⟨rfl,hk2⟩
         go_wp2_with fail
         go_roundw
         case rel=>exact⟨m+1,by omega,by go_num,by rw[c1'.out];rfl,by rw[DJ.out];rfl,((hk.alloc _).trans hk1).trans hk2,((hB.alloc _).kp hk1).kp hk2⟩
         case measure=>simp[intOf]<;>omega
       ·obtain rfl:m=4:=by omega
        go_wp2_with fail
        go_roundw
        case rel=>exact⟨n+1,by omega,by go_num,rfl,rfl,hk,hB⟩
        case measure=>simp[intOf]<;>omega
     ·obtain rfl:n=d.ae.length:=by omega
      by_cases hin:cV d a false (4*d.ae.length)=1
      ·have i1:((((cV d a false (4*d.ae.length):Nat):Int)!=1):Bool)=false:=by simp only[bne_eq_false_iff_eq];omega
       by_cases hout:cV d a true (4*d.ae.length)=1
       ·have i2:((((cV d a true (4*d.ae.length):Nat):Int)!=1):Bool)=false:=by simp only[bne_eq_false_iff_eq];omega
        have hao:Hid (lM d a=true):=by rw[Hid];unfold lM;rw[hin,hout];rfl
        clear hin hout
        go_wp2_with fail
        go_roundw
        case rel=>exact⟨a+1,by omega,by omega,by go_num,fun a' h1 h2=>by
         rcases Nat.lt_or_ge a' a with h|h
         ·exact hok.out a' h1 h
         ·obtain rfl:a'=a:=by omega
          exact hao.out,hk,hB⟩
        case measure=>simp[intOf]<;>omega
       ·have i2:((((cV d a true (4*d.ae.length):Nat):Int)!=1):Bool)=true:=by simp only[bne_iff_ne,ne_eq];omega
        have hao:Hid (iC d=false):=abO ha0 hlt (by unfold lM;rw[hin];simp[hout])
        clear hin hout
        go_wp2_with fail
        go_ret
        exact⟨by rw[hao.out];rfl,hk⟩
      ·have i1:((((cV d a false (4*d.ae.length):Nat):Int)!=1):Bool)=true:=by simp only[bne_iff_ne,ne_eq];omega
       have hao:Hid (iC d=false):=abO ha0 hlt (by unfold lM;simp[hin])
       clear hin
       go_wp2_with fail
       go_ret
       exact⟨by rw[hao.out];rfl,hk⟩
   ·have hao:Hid (iC d=true):=aki Hsz.out fun a' h1 h2=>hok.out a' h1 (by omega)
    go_wp2_with fail
    go_ret
    exact⟨by rw[hao.out];rfl,hk⟩
theorem aii(v:Value)(d:Dg)(w:World)(hd:nM w w.heap.size v d):Calls Tryz.prog 31 #[v] w (yN (iC d) w):=by
 by_cases h:d.ae.length<=16/\0<=d.loops/\d.loops<=16/\¬(d.ae.length=0/\d.loops=0)
 ·exact aie v d w hd h
 ·rw[aaY h];exact aid v d w hd h
end Go.Proofs.YthppkofceancjaaGreat
namespace Go.Proofs.YthppkofceancjaaGreat
open Go.ChangeShapes Go.WideShapes Go.ChangeAt Go.RowKit
def lastP(d:Dg)(a:Int)(back:Bool):Nat->Nat×Nat
 |0=>(0,0)
 |J+1=>if gA d a back J=true then(J/4,J%4)else lastP d a back J
theorem ajn{d:Dg}{a:Int}{back:Bool}{J:Nat}(h:cV d a back J=0):∀j,j<J->gA d a back j=false:=by
 intro j hj
 unfold cV at h
 rw[List.countP_eq_zero]at h
 have:=h j (by simpa using hj)
 simpa using this
theorem Jg{d:Dg}{a:Int}{back:Bool}{J:Nat}(h:cV d a back J=1):
  ∃j,j<J/\gA d a back j=true/\(∀i,i<J->gA d a back i=true->i=j)/\lastP d a back J=(j/4,j%4):=by
 induction J with
 |zero=>simp[cV]at h
 |succ J ih=>
  rw[xW]at h
  by_cases hJ:gA d a back J=true
  ·rw[if_pos hJ]at h
   have h0:=ajn (show cV d a back J=0 by omega)
   refine⟨J,by omega,hJ,fun i hi hi'=>?_,by unfold lastP;rw[if_pos hJ]⟩
   rcases Nat.lt_or_ge i J with h1|h1
   ·rw[h0 i h1]at hi';cases hi'
   ·omega
  ·rw[if_neg hJ]at h
   obtain⟨j,h1,h2,h3,h4⟩:=ih (by omega)
   refine⟨j,by omega,h2,fun i hi hi'=>?_,by unfold lastP;rw[if_neg hJ];exact h4⟩
   rcases Nat.lt_or_ge i J with h5|h5
   ·exact h3 i h5 hi'
   ·obtain rfl:i=J:=by omega
    exact absurd hi' hJ
theorem aa0{d:Dg}{a:Int}{back:Bool}(h:cV d a back (4*d.ae.length)=1):lastP d a back (4*d.ae.length)=aX d a back:=by
 obtain⟨j,h1,h2,h3,h4⟩:=Jg h
 rw[h4,IV h1 h2 fun i hi=>by
  cases hq:gA d a back i
  ·rfl
  ·have:=h3 i (by omega) hq
   omega]
def bh(d:Dg)(j:Nat):Int:=cz d (j/4) (j%4)
def sG(d:Dg)(m J:Nat):Nat:=(List.range J).countP fun j=>decide (1<=bh d j/\bh d j<=(m:Int))
theorem aiL(d:Dg)(m J:Nat):sG d (m+1) J=sG d m J+(cV d ((m+1:Nat):Int) false J+cV d ((m+1:Nat):Int) true J):=by
 induction J with
 |zero=>simp[sG,cV]
 |succ J ih=>
  have e:∀m,sG d m (J+1)=sG d m J+if 1<=bh d J/\bh d J<=(m:Int)then 1 else 0:=by
   intro m
   unfold sG
   rw[List.range_succ,List.countP_append,List.countP_singleton]
   simp
  rw[e,e,ih,xW,xW]
  unfold gA
  change _+(if 1<=bh d J/\bh d J<=((m+1:Nat):Int)then 1 else 0)=_
  have h1:cz d (J/4) (J%4)=bh d J:=rfl
  rw[h1]
  by_cases hm:bh d J=((m+1:Nat):Int)
  ·rw[if_pos (by omega),if_neg (by omega)]
   cases cm d (J/4) (J%4)<;>simp[hm]<;>omega
  ·have e2:decide (bh d J=((m+1:Nat):Int))=false:=by simpa using hm
   rw[e2]
   simp only[Bool.false_and,Bool.false_eq_true,if_false]
   by_cases h2:1<=bh d J/\bh d J<=(m:Int)
   ·rw[if_pos (by omega),if_pos h2];omega
   ·rw[if_neg (by omega),if_neg h2];omega
theorem aji{d:Dg}{m:Nat}(h:∀a:Nat,1<=a->a<=m->cV d a false (4*d.ae.length)=1/\cV d a true (4*d.ae.length)=1):sG d m (4*d.ae.length)=2*m:=by
 induction m with
 |zero=>
  unfold sG
  rw[List.countP_eq_zero.2 (by intro j _;simp;omega)]
 |succ m ih=>
  rw[aiL,ih fun a h0 h1=>h a h0 (by omega)]
  have:=h (m+1) (by omega) (by omega)
  omega
def Uu(d:Dg):Bool:=(List.range (2*d.ae.length)).all fun a=>lM d ((a+1:Nat):Int)
theorem IQ(d:Dg):iC d=(decide (d.ae.length<=16/\0<=d.loops/\d.loops<=16/\¬(d.ae.length=0/\d.loops=0))&&Uu d):=rfl
theorem IX{d:Dg}(h:Uu d=true)(a:Nat)(h0:1<=a)(h1:a<=2*d.ae.length):cV d a false (4*d.ae.length)=1/\cV d a true (4*d.ae.length)=1:=by
 have:=List.all_eq_true.1 h (a-1) (by simp;omega)
 rw[show a-1+1=a by omega]at this
 unfold lM at this
 simpa using this
theorem ab6{d:Dg}{a:Nat}(h0:1<=a)(h1:a<=2*d.ae.length)(h:lM d a=false):Uu d=false:=by
 refine List.all_eq_false.2 ⟨a-1,by simp;omega,?_⟩
 rw[show a-1+1=a by omega,h];simp
theorem ajs{d:Dg}(h2:∀a:Nat,1<=a->a<=2*d.ae.length->lM d a=true):Uu d=true:=by
 refine List.all_eq_true.2 fun a ha=>h2 (a+1) (by omega) ?_
 simp at ha
 omega
theorem tL{d:Dg}(h:Uu d=true){j:Nat}(hj:j<4*d.ae.length):1<=bh d j/\bh d j<=2*(d.ae.length:Int):=by
 have h1:=aji (m:=2*d.ae.length) (IX h)
 unfold sG at h1
 have h2:(List.range (4*d.ae.length)).countP (fun j=>decide (1<=bh d j/\bh d j<=((2*d.ae.length:Nat):Int)))=(List.range (4*d.ae.length)).length:=by rw[h1];simp;omega
 rw[List.countP_eq_length]at h2
 have:=h2 j (by simpa using hj)
 rw[decide_eq_true_iff]at this
 omega
theorem ab5{d:Dg}{j:Nat}(hj:j<4*d.ae.length)(h:¬(1<=bh d j/\bh d j<=2*(d.ae.length:Int))):Uu d=false:=by
 cases hm:Uu d
 ·rfl
 ·exact absurd (tL hm hj) h
set_option maxRecDepth 100000 in
set_option maxHeartbeats 1000000 in
theorem Fg(x:Cr)(k:Nat)(w:World)(hk:k<4):Calls Tryz.prog 115 #[zU x,.int .i64 k] w (JO (wZ x k) w):=by
 have hkk:k=0\/k=1\/k=2\/k=3:=by omega
 unfold zU
 obtain⟨a,b,c,d,p⟩:=x
 have i0:∀w,(Instr.index 208 (.agg #[.int .i64 a,.int .i64 b,.int .i64 c,.int .i64 d]) (.int .i64 0)).run Tryz.prog w=.ok (.int .i64 a) w:=fun _=>by kernel_rfl
 have i1:∀w,(Instr.index 208 (.agg #[.int .i64 a,.int .i64 b,.int .i64 c,.int .i64 d]) (.int .i64 1)).run Tryz.prog w=.ok (.int .i64 b) w:=fun _=>by kernel_rfl
 have i2:∀w,(Instr.index 208 (.agg #[.int .i64 a,.int .i64 b,.int .i64 c,.int .i64 d]) (.int .i64 2)).run Tryz.prog w=.ok (.int .i64 c) w:=fun _=>by kernel_rfl
 have i3:∀w,(Instr.index 208 (.agg #[.int .i64 a,.int .i64 b,.int .i64 c,.int .i64 d]) (.int .i64 3)).run Tryz.prog w=.ok (.int .i64 d) w:=fun _=>by kernel_rfl
 rcases hkk with rfl|rfl|rfl|rfl
 all_goals
  go_enter Tryz.func115,Tryz.ntmps115
  go_wp2_with fail
  go_ret
  exact⟨rfl,(Kp.refl _).alloc _⟩
def uj(x:Cr):Nat:=if x.plus=true then 3 else 1
set_option maxHeartbeats 1000000 in
theorem aiH(x:Cr)(w:World):Calls Tryz.prog 170 #[zU x] w (JO (uj x) w):=by
 obtain⟨a,b,c,d,p⟩:=x
 unfold zU uj
 cases p
 all_goals
  go_enter Tryz.func170,Tryz.ntmps170
  go_wp2_with fail
  go_ret
  exact⟨rfl,(Kp.refl _).alloc _⟩
set_option maxHeartbeats 1000000 in
theorem abf(x:Cr)(k:Nat)(w:World)(hk:k<4):Calls Tryz.prog 133 #[zU x,.int .i64 k] w (yN (nI x k) w):=by
 have hkk:k=0\/k=1\/k=2\/k=3:=by omega
 have ho:=Lib.hid fun w'=>aiH x w'
 obtain⟨a,b,c,d,p⟩:=x
 unfold zU uj at*
 rcases hkk with rfl|rfl|rfl|rfl
 ·go_enter Tryz.func133,Tryz.ntmps133
  go_wp2_with fail
  go_ret
  exact⟨rfl,(Kp.refl _).alloc _⟩
 all_goals
  cases p
  all_goals
   go_enter Tryz.func133,Tryz.ntmps133
   go_wp2_with fail
   refine(ho.out _).mono ?_;rintro e w1 ⟨rfl,hk1⟩
   go_wp2_with fail
   go_ret
   exact⟨rfl,Kp.trans ((Kp.refl _).alloc _) hk1⟩
end Go.Proofs.YthppkofceancjaaGreat
namespace Go.Proofs.YthppkofceancjaaGreat
open Go.ChangeShapes Go.WideShapes Go.ChangeAt Go.RowKit
def amI(base:Nat)(xs:List Cr)(w:World)(e:Ending)(w':World):Prop:=∃A c,e=.returned (.slice A xs.length c)/\Ow kr 77 w' base (.slice A xs.length c) xs/\Kp w w'
set_option maxHeartbeats 1000000 in
theorem akF(A:Option Addr)(c:Nat)(xs:List Cr)(w:World)(hr:Rd kr w w.heap.size A xs):
  Calls Tryz.prog 132 #[.slice A xs.length c] w (amI w.heap.size xs w):=by
 have hnl:=fun(w:World) (a:Option Addr) (n c:Nat)=>Lib.run_eql_slice_nil (P:=Tryz.prog) w 22 77 a n c 0 0 bF
 cases A with
 |none=>
  have h0:xs.length=0:=by
   rcases Nat.eq_zero_or_pos xs.length with h|h
   ·exact h
   ·obtain⟨b,off,h,_⟩:=Sl.at_ hr h
    cases h
  have hx:xs=[]:=List.eq_nil_of_length_eq_zero h0
  subst hx
  go_enter Tryz.func132,Tryz.ntmps132
  go_wp2_with fail
  go_ret
  exact⟨none,0,rfl,Ow.bN,Kp.refl _⟩
 |some ad=>
  go_enter Tryz.func132,Tryz.ntmps132
  go_wp2_with (at_builtin;refine air aq8 rfl _ _ rfl (World.ownsRow_made w #[] 0 (Nat.le_refl _) (by unfold maxLen;omega) rfl) rfl rfl (Rd.kp hr ((Kp.refl _).alloc _)) (aom xs) (by rw[Nat.zero_add];exact hr.room) (by simp) ?_;intro v' w1 ho hg _)
  go_ret
  have ho':Ow kr 77 w1 w.heap.size v' xs:=by
   unfold Ow
   rw[Nat.zero_add,List.nil_append]at ho
   exact ho
  obtain⟨A',c',rfl,_⟩:=ho'.sl
  exact⟨A',c',rfl,ho',((Kp.refl w).alloc _).grown hg (fun k hk=>by simp[Value.ownBlock]at hk;omega)⟩
def rf(x:Nat×Nat):List Value:=[.int .i64 x.1,.int .i64 x.2]
def uE:kP (Nat×Nat):=⟨rf,2,16,fun _=>rfl⟩
def aN(d:Dg)(back:Bool)(J:Nat):List (Nat×Nat):=(List.range (2*d.ae.length+1)).map fun a:Nat=>lastP d (a:Int) back J
def eQ(d:Dg)(back:Bool)(J:Nat):List Int:=(List.range (2*d.ae.length+1)).map fun a:Nat=>((cV d (a:Int) back J:Nat):Int)
theorem IE(d:Dg)(a:Int)(back:Bool)(J:Nat):lastP d a back (J+1)=if gA d a back J=true then(J/4,J%4)else lastP d a back J:=rfl
theorem jo(d:Dg)(back:Bool)(J:Nat):(aN d back J).length=2*d.ae.length+1:=by simp[aN]
theorem pq(d:Dg)(back:Bool)(J:Nat):(eQ d back J).length=2*d.ae.length+1:=by simp[eQ]
theorem tO{d:Dg}{back:Bool}{J a:Nat}(h:a<2*d.ae.length+1):ga (aN d back J) a=lastP d (a:Int) back J:=by
 rw[bV (by rw[jo];exact h)];simp[aN]
theorem pn{d:Dg}{back:Bool}{J a:Nat}(h:a<2*d.ae.length+1):gi (eQ d back J) a=(cV d (a:Int) back J:Nat):=by
 rw[Lv (by rw[pq];exact h)];simp[eQ]
theorem aaJ(d:Dg)(back:Bool):aN d back 0=List.replicate (2*d.ae.length+1) (0,0):=by
 simp only[aN,lastP,List.map_const',List.length_range]
theorem abh(d:Dg)(back:Bool):eQ d back 0=List.replicate (2*d.ae.length+1) 0:=by
 simp[eQ,cV,List.map_const']
theorem abZ{d:Dg}{a J:Nat}{back:Bool}(h:bh d J=a)(a':Nat):gA d (a':Int) back J=(decide (a'=a)&&(cm d (J/4) (J%4)!=back)):=by
 unfold gA
 have h1:cz d (J/4) (J%4)=(a:Int):=h
 rw[h1]
 congr 1
 simp only[decide_eq_decide]
 omega
theorem abA{d:Dg}{back:Bool}{J a:Nat}(h:bh d J=a)(he:cm d (J/4) (J%4)≠back):aN d back (J+1)=(aN d back J).set a (J/4,J%4):=by
 apply yI
 ·rw[List.length_set,jo,jo]
 ·intro i hi
  rw[jo]at hi
  have e:=abZ (back:=back) h i
  by_cases ha:a<(aN d back J).length
  ·rw[bB _ _ _ _ ha,tO hi,tO hi,IE,e]
   by_cases hi':a=i
   ·subst hi';simp[he]
   ·have:¬i=a:=fun h=>hi' h.symm
    simp[hi',this]
  ·rw[List.set_eq_of_length_le (by omega),tO hi,tO hi]
   rw[jo]at ha
   rw[IE,e]
   have:¬i=a:=by omega
   simp[this]
theorem aaK{d:Dg}{back:Bool}{J:Nat}(he:cm d (J/4) (J%4)=back):aN d back (J+1)=aN d back J:=by
 apply yI
 ·rw[jo,jo]
 ·intro i hi
  rw[jo]at hi
  rw[tO hi,tO hi,IE]
  unfold gA
  simp[he]
theorem ab2{d:Dg}{back:Bool}{J a:Nat}(h:bh d J=a)(he:cm d (J/4) (J%4)≠back):eQ d back (J+1)=(eQ d back J).set a (gi (eQ d back J) a+1):=by
 apply adQ
 ·rw[List.length_set,pq,pq]
 ·intro i hi
  rw[pq]at hi
  have e:=abZ (back:=back) h i
  by_cases ha:a<(eQ d back J).length
  ·rw[an9 _ _ _ _ ha,pn hi,pn hi,xW,e]
   by_cases hi':a=i
   ·subst hi';rw[pn hi];simp[he]
   ·have:¬i=a:=fun h=>hi' h.symm
    simp[hi',this]
  ·rw[List.set_eq_of_length_le (by omega),pn hi,pn hi,xW,e]
   rw[pq]at ha
   have:¬i=a:=by omega
   simp[this]
theorem abj{d:Dg}{back:Bool}{J:Nat}(he:cm d (J/4) (J%4)=back):eQ d back (J+1)=eQ d back J:=by
 apply adQ
 ·rw[pq,pq]
 ·intro i hi
  rw[pq]at hi
  rw[pn hi,pn hi,xW]
  unfold gA
  simp[he]
end Go.Proofs.YthppkofceancjaaGreat
namespace Go.Proofs.YthppkofceancjaaGreat
open Go.ChangeShapes Go.WideShapes Go.ChangeAt Go.RowKit
theorem aq7:Ec Tryz.prog 68 190 2 16 (.agg #[.int .i64 0,.int .i64 0]):=⟨y9,by kernel_rfl,rfl,by omega,by omega⟩
def Sh(d:Dg)(w0 w:World)(p:Value)(ti tu:List (Nat×Nat)):Prop:=
 ∃g A c gi go,p=.pointer (some ⟨g,0,none⟩)/\
  br w g 70 #[.slice A d.ae.length c,.int .i64 d.loops,.slice (some ⟨gi,0,none⟩) (2*d.ae.length+1) (2*d.ae.length+1),.slice (some ⟨go,0,none⟩) (2*d.ae.length+1) (2*d.ae.length+1)]/\
  gi≠go/\w0.heap.size<g/\
  Ow kr 77 w (w0.heap.size+1) (.slice A d.ae.length c) d.ae/\
  Ow uE 190 w (w0.heap.size+1) (.slice (some ⟨gi,0,none⟩) (2*d.ae.length+1) (2*d.ae.length+1)) ti/\
  Ow uE 190 w (w0.heap.size+1) (.slice (some ⟨go,0,none⟩) (2*d.ae.length+1) (2*d.ae.length+1)) tu
theorem Sh.kp{d:Dg}{w0 w w':World}{p:Value}{ti tu:List (Nat×Nat)}(h:Sh d w0 w p ti tu)(hk:Kp w w'):Sh d w0 w' p ti tu:=by
 obtain⟨g,A,c,gi,go,r1,r2,r3,r4,r5,r6,r7⟩:=h
 exact⟨g,A,c,gi,go,r1,r2.kp hk,r3,r4,r5.kp hk,r6.kp hk,r7.kp hk⟩
def Bs(d:Dg)(w0 w:World)(p ci co:Value)(J:Nat):Prop:=
 Sh d w0 w p (aN d false J) (aN d true J)/\∃ga gb,ci=.slice (some ⟨ga,0,none⟩) (2*d.ae.length+1) (2*d.ae.length+1)/\co=.slice (some ⟨gb,0,none⟩) (2*d.ae.length+1) (2*d.ae.length+1)/\ga≠gb/\
  fD w (w0.heap.size+1) (.slice (some ⟨ga,0,none⟩) (2*d.ae.length+1) (2*d.ae.length+1)) (eQ d false J)/\fD w (w0.heap.size+1) (.slice (some ⟨gb,0,none⟩) (2*d.ae.length+1) (2*d.ae.length+1)) (eQ d true J)
structure Bq(d:Dg)(b0 g:Nat)(A:Option Addr)(c gi go ga gb:Nat)(w:World)(J:Nat):Prop where
 sh:br w g 70 #[.slice A d.ae.length c,.int .i64 d.loops,.slice (some ⟨gi,0,none⟩) (2*d.ae.length+1) (2*d.ae.length+1),.slice (some ⟨go,0,none⟩) (2*d.ae.length+1) (2*d.ae.length+1)]
 cr:Ow kr 77 w b0 (.slice A d.ae.length c) d.ae
 ti:Ow uE 190 w b0 (.slice (some ⟨gi,0,none⟩) (2*d.ae.length+1) (2*d.ae.length+1)) (aN d false J)
 tu:Ow uE 190 w b0 (.slice (some ⟨go,0,none⟩) (2*d.ae.length+1) (2*d.ae.length+1)) (aN d true J)
 ci:fD w b0 (.slice (some ⟨ga,0,none⟩) (2*d.ae.length+1) (2*d.ae.length+1)) (eQ d false J)
 co:fD w b0 (.slice (some ⟨gb,0,none⟩) (2*d.ae.length+1) (2*d.ae.length+1)) (eQ d true J)
 n1:gi≠go
 n2:ga≠gb
 lt:b0<=g
section
variable {d : Dg} {b0 g c gi go ga gb J : Nat} {A : Option Addr} {w w' : World}
theorem Bq.kp(h:Bq d b0 g A c gi go ga gb w J)(hk:Kp w w'):Bq d b0 g A c gi go ga gb w' J:=
 ⟨h.sh.kp hk,h.cr.kp hk,h.ti.kp hk,h.tu.kp hk,h.ci.kp hk,h.co.kp hk,h.n1,h.n2,h.lt⟩
theorem lB{w:World}{b:Nat}{v:Value}{xs:List Int}(h:fD w b v xs):Ow CM 3 w b v xs:=by
 unfold Ow
 rw[acS]
 exact h
theorem fD.kept{w w':World}{b:Nat}{v:Value}{xs:List Int}{row:Option Nat}(h:fD w b v xs)(hg:Gr w w' row)(hne:v.ownBlock=none\/v.ownBlock≠row):fD w' b v xs:=World.ownsRow.kept h hg hne
theorem uq{w:World}{α:Type}{C:kP α}{E t:TypeId}{b g:Nat}{v:Value}{xs:List α}{cs:Array Value}(h:Ow C E w b v xs)(h':br w g t cs)(hne:E≠t):some g≠v.ownBlock:=by
 rcases h.Fq h' hne with h|h
 ·rw[h];simp
 ·exact fun e=>h e.symm
theorem Bq.apP(h:Bq d b0 g A c gi go ga gb w J){a:Nat}(ha:a<2*d.ae.length+1)(hj:bh d J=a)(he:cm d (J/4) (J%4)=true):
  Bq d b0 g A c gi go ga gb (((w.setCell ⟨gi,a*2,none⟩ (.int .i64 ((J/4:Nat):Int))).setCell ⟨gi,a*2+1,none⟩ (.int .i64 ((J%4:Nat):Int))).setCell ⟨ga,a,none⟩ (.int .i64 (Go.Proofs.YthppkofceancjaaGreat.gi (eQ d false J) a+1))) (J+1):=by
 have ht:aN d false (J+1)=(aN d false J).set a (J/4,J%4):=abA hj (by simp[he])
 have hu:aN d true (J+1)=aN d true J:=aaK he
 have hc:eQ d false (J+1)=(eQ d false J).set a (Go.Proofs.YthppkofceancjaaGreat.gi (eQ d false J) a+1):=ab2 hj (by simp[he])
 have ho:eQ d true (J+1)=eQ d true J:=abj he
 have s1:=h.ti.afb rfl (i:=a) (by rw[jo];exact ha) (.int .i64 ((J/4:Nat):Int)) (.int .i64 ((J%4:Nat):Int)) (J/4,J%4) rfl
 have g1:=acJ (w:=w) (g:=gi) (i:=a*2) (j:=a*2+1) (.int .i64 ((J/4:Nat):Int)) (.int .i64 ((J%4:Nat):Int))
 have c1:=h.ci.kept g1 (lB h.ci|>.lh h.ti (by decide))
 have g2:=acK (w:=(w.setCell ⟨gi,a*2,none⟩ (.int .i64 ((J/4:Nat):Int))).setCell ⟨gi,a*2+1,none⟩ (.int .i64 ((J%4:Nat):Int))) (g:=ga) (i:=a) (.int .i64 (Go.Proofs.YthppkofceancjaaGreat.gi (eQ d false J) a+1))
 have k1:=h.sh.gr g1 (uq h.ti h.sh (by decide))
 have q1:=h.cr.kept g1 (h.cr.lh h.ti (by decide))
 have u1:=h.tu.kept g1 (.inr (by simpa[Value.ownBlock]using h.n1.symm))
 have o1:=h.co.kept g1 (lB h.co|>.lh h.ti (by decide))
 refine⟨k1.gr g2 (uq (lB c1) k1 (by decide)),q1.kept g2 (q1.lh (lB c1) (by decide)),?_,?_,?_,?_,h.n1,h.n2,h.lt⟩
 ·rw[ht];exact s1.kept g2 (s1.lh (lB c1) (by decide))
 ·rw[hu];exact u1.kept g2 (u1.lh (lB c1) (by decide))
 ·rw[hc];exact c1.afa a _
 ·rw[ho];exact o1.kept g2 (.inr (by simpa[Value.ownBlock]using h.n2.symm))
theorem Bq.anY(h:Bq d b0 g A c gi go ga gb w J){a:Nat}(ha:a<2*d.ae.length+1)(hj:bh d J=a)(he:cm d (J/4) (J%4)=false):
  Bq d b0 g A c gi go ga gb (((w.setCell ⟨go,a*2,none⟩ (.int .i64 ((J/4:Nat):Int))).setCell ⟨go,a*2+1,none⟩ (.int .i64 ((J%4:Nat):Int))).setCell ⟨gb,a,none⟩ (.int .i64 (Go.Proofs.YthppkofceancjaaGreat.gi (eQ d true J) a+1))) (J+1):=by
 have ht:aN d true (J+1)=(aN d true J).set a (J/4,J%4):=abA hj (by simp[he])
 have hu:aN d false (J+1)=aN d false J:=aaK he
 have hc:eQ d true (J+1)=(eQ d true J).set a (Go.Proofs.YthppkofceancjaaGreat.gi (eQ d true J) a+1):=ab2 hj (by simp[he])
 have ho:eQ d false (J+1)=eQ d false J:=abj he
 have s1:=h.tu.afb rfl (i:=a) (by rw[jo];exact ha) (.int .i64 ((J/4:Nat):Int)) (.int .i64 ((J%4:Nat):Int)) (J/4,J%4) rfl
 have g1:=acJ (w:=w) (g:=go) (i:=a*2) (j:=a*2+1) (.int .i64 ((J/4:Nat):Int)) (.int .i64 ((J%4:Nat):Int))
 have c1:=h.co.kept g1 (lB h.co|>.lh h.tu (by decide))
 have g2:=acK (w:=(w.setCell ⟨go,a*2,none⟩ (.int .i64 ((J/4:Nat):Int))).setCell ⟨go,a*2+1,none⟩ (.int .i64 ((J%4:Nat):Int))) (g:=gb) (i:=a) (.int .i64 (Go.Proofs.YthppkofceancjaaGreat.gi (eQ d true J) a+1))
 have k1:=h.sh.gr g1 (uq h.tu h.sh (by decide))
 have q1:=h.cr.kept g1 (h.cr.lh h.tu (by decide))
 have u1:=h.ti.kept g1 (.inr (by simpa[Value.ownBlock]using h.n1))
 have o1:=h.ci.kept g1 (lB h.ci|>.lh h.tu (by decide))
 refine⟨k1.gr g2 (uq (lB c1) k1 (by decide)),q1.kept g2 (q1.lh (lB c1) (by decide)),?_,?_,?_,?_,h.n1,h.n2,h.lt⟩
 ·rw[hu];exact u1.kept g2 (u1.lh (lB c1) (by decide))
 ·rw[ht];exact s1.kept g2 (s1.lh (lB c1) (by decide))
 ·rw[ho];exact o1.kept g2 (.inr (by simpa[Value.ownBlock]using h.n2))
 ·rw[hc];exact c1.afa a _
theorem Bq.arl(h:Bq d b0 g A c gi go ga gb w J){a:Nat}(ha:a<2*d.ae.length+1):∃x y X:Int,w.cell? ⟨gi,a*2,none⟩=some (.int .i64 x)/\w.cell? ⟨gi,a*2+1,none⟩=some (.int .i64 y)/\w.cell? ⟨ga,a,none⟩=some (.int .i64 X)/\
  w.frozen? ⟨gi,a*2,none⟩=false/\w.frozen? ⟨gi,a*2+1,none⟩=false/\w.frozen? ⟨ga,a,none⟩=false/\gi≠ga/\ga≠gi/\Hid (Go.Proofs.YthppkofceancjaaGreat.gi (eQ d false J) a=X)/\0<=X/\X<=J:=by
 have hl:a<(aN d false J).length:=by rw[jo];exact ha
 have hne:gi≠ga:=by
  rcases h.ti.lh (lB h.ci) (by decide)with h|h
  ·simp[Value.ownBlock]at h
  ·simpa[Value.ownBlock]using h
 have hx:=yz d a false J
 exact⟨_,_,_,h.ti.cell hl (j:=0) (by decide) rfl,h.ti.cell hl (j:=1) (by decide) rfl,h.ci.cell (by rw[pq];exact ha),h.ti.free _,h.ti.free _,h.ci.free _,hne,hne.symm,rfl,
  by rw[pn ha];omega,by rw[pn ha];omega⟩
theorem Bq.ao8(h:Bq d b0 g A c gi go ga gb w J){a:Nat}(ha:a<2*d.ae.length+1):∃x y X:Int,w.cell? ⟨go,a*2,none⟩=some (.int .i64 x)/\w.cell? ⟨go,a*2+1,none⟩=some (.int .i64 y)/\w.cell? ⟨gb,a,none⟩=some (.int .i64 X)/\
  w.frozen? ⟨go,a*2,none⟩=false/\w.frozen? ⟨go,a*2+1,none⟩=false/\w.frozen? ⟨gb,a,none⟩=false/\go≠gb/\gb≠go/\Hid (Go.Proofs.YthppkofceancjaaGreat.gi (eQ d true J) a=X)/\0<=X/\X<=J:=by
 have hl:a<(aN d true J).length:=by rw[jo];exact ha
 have hne:go≠gb:=by
  rcases h.tu.lh (lB h.co) (by decide)with h|h
  ·simp[Value.ownBlock]at h
  ·simpa[Value.ownBlock]using h
 have hx:=yz d a true J
 exact⟨_,_,_,h.tu.cell hl (j:=0) (by decide) rfl,h.tu.cell hl (j:=1) (by decide) rfl,h.co.cell (by rw[pq];exact ha),h.tu.free _,h.tu.free _,h.co.free _,hne,hne.symm,rfl,
  by rw[pn ha];omega,by rw[pn ha];omega⟩
end
def Hf(w:World)(b0:Nat)(v:Value)(d:Dg):Prop:=
 ∃g A c gi go,v=.pointer (some ⟨g,0,none⟩)/\b0<=g/\gi≠go/\
  br w g 70 #[.slice A d.ae.length c,.int .i64 d.loops,.slice (some ⟨gi,0,none⟩) (2*d.ae.length+1) (2*d.ae.length+1),.slice (some ⟨go,0,none⟩) (2*d.ae.length+1) (2*d.ae.length+1)]/\
  Ow kr 77 w b0 (.slice A d.ae.length c) d.ae/\
  Ow uE 190 w b0 (.slice (some ⟨gi,0,none⟩) (2*d.ae.length+1) (2*d.ae.length+1)) (aN d false (4*d.ae.length))/\
  Ow uE 190 w b0 (.slice (some ⟨go,0,none⟩) (2*d.ae.length+1) (2*d.ae.length+1)) (aN d true (4*d.ae.length))
theorem Bq.ark{d:Dg}{b0 g c gi go ga gb:Nat}{A:Option Addr}{w:World}(h:Bq d b0 g A c gi go ga gb w (4*d.ae.length)):Hf w b0 (.pointer (some ⟨g,0,none⟩)) d:=
 ⟨g,A,c,gi,go,rfl,h.lt,h.n1,h.sh,h.cr,h.ti,h.tu⟩
def akO(w:World)(e:Ending)(w':World):Prop:=e=.returned (.tuple #[.pointer none,.bool false])/\Kp w w'
def aoy(d:Dg)(w:World)(e:Ending)(w':World):Prop:=∃v,e=.returned (.tuple #[v,.bool true])/\Kp w w'/\Hf w' w.heap.size v d
def abq(b:Bool)(d:Dg)(w:World)(e:Ending)(w':World):Prop:=(b=false/\akO w e w')\/(b=true/\aoy d w e w')
set_option maxRecDepth 100000 in
set_option maxHeartbeats 4000000 in
theorem ajr(v:Value)(d:Dg)(w:World)(hd:nM w w.heap.size v d)(hn:d.ae.length<=16):
  Calls Tryz.prog 83 #[v] w (abq (Uu d) d w):=by
 obtain⟨A,cap,rfl,hcap,hr⟩:=hd
 have hm:=fun W=>acF aq7 (2*d.ae.length+1) (2*(d.ae.length:Int)+1) (by omega) (by omega) W
 have hm2:=fun W=>acF aoX (2*d.ae.length+1) (2*(d.ae.length:Int)+1) (by omega) (by omega) W
 generalize hZ:madeCells (Value.agg #[.int .i64 0,.int .i64 0]).cells ((2*d.ae.length+1)*2)=Z at*
 generalize hY:madeCells (Value.int .i64 0).cells ((2*d.ae.length+1)*1)=Y at*
 have HZ:=Lib.hid hZ
 have HY:=Lib.hid hY
 clear hZ hY
 go_enter Tryz.func83,Tryz.ntmps83
 have W0:IntKind.i64.wrap (2*(d.ae.length:Int))=2*(d.ae.length:Int):=IntWalk.i64_in _ (by omega)
 have W1:IntKind.i64.wrap (2*(d.ae.length:Int)+1)=2*(d.ae.length:Int)+1:=IntWalk.i64_in _ (by omega)
 have E0:Hid ((w.alloc (.cells #[.slice A d.ae.length cap,.int .i64 d.loops] 24)).cell? ⟨w.heap.size,0,none⟩=some (.slice A d.ae.length cap)):=(br.new _ _ _).cell 0 rfl
 have E1:Hid ((w.alloc (.cells #[.slice A d.ae.length cap,.int .i64 d.loops] 24)).cell? ⟨w.heap.size,1,none⟩=some (.int .i64 d.loops)):=(br.new _ _ _).cell 1 rfl
 go_upto_region 2 with(fail)
 go_cut [5] (fun p wx=>Kp (w.alloc (.cells #[.slice A d.ae.length cap,.int .i64 d.loops] 24)) wx/\Sh d w wx p (aN d false 0) (aN d true 0))
 case first=>
  go_region_held3 (fun W=>W.cell? ⟨w.heap.size,0,none⟩=some (.slice A d.ae.length cap)/\W.cell? ⟨w.heap.size,1,none⟩=some (.int .i64 d.loops)) (go_keep) (first
   |(go_at_call 132;refine(akF A cap d.ae _ (hr.kp (by repeat(with_reducible (first|exact Kp.refl _|refine Kp.alloc ?_ _|refine Kp.drew ?_))))).mono ?_;rintro e w1 ⟨A1,c1,rfl,ho1,hk1⟩;have hq:Kp (w.alloc (.cells #[.slice A d.ae.length cap,.int .i64 d.loops] 24)) w1:=Kp.trans (by repeat(with_reducible (first|exact Kp.refl _|refine Kp.alloc ?_ _|refine Kp.drew ?_))) hk1;have q0:=hq.c E0.out;have q1:=hq.c E1.out;obtain⟨l0,l1,l2,l3,l4⟩:=zH hq.alt))
  all_goals
   have lk:=hk1.size
   simp at lk
   go_wp2_with fail
   go_meet
   refine⟨?_,_,A1,c1,_,_,rfl,br.new' _ _ _ (by simp),?_,?_,?_,?_,?_⟩
   ·repeat(with_reducible (first|exact Kp.refl _|refine Kp.alloc ?_ _|refine Kp.drew ?_|refine Kp.trans ?_ hk1))
   ·omega
   ·omega
   ·refine(Ow.base (ho1.kp ?_) (by simp));repeat(with_reducible (first|exact Kp.refl _|refine Kp.alloc ?_ _|refine Kp.drew ?_))
   ·rw[aaJ]
    refine Ow.made (C:=uE) (z:=.agg #[.int .i64 0,.int .i64 0]) rfl ?_ (by first|omega|(simp;done)|(simp;omega)) (by unfold maxLen;omega)
    change br _ _ _ (madeCells (Value.agg #[.int .i64 0,.int .i64 0]).cells ((2*d.ae.length+1)*2))
    rw[HZ.out]
    repeat(first|((with_reducible refine br.new' _ _ _ ?_);(simp;done))|with_reducible refine br.alloc ?_ _|with_reducible refine br.drew ?_|with_reducible refine br.kp ?_ hk1)
   ·rw[aaJ]
    refine Ow.made (C:=uE) (z:=.agg #[.int .i64 0,.int .i64 0]) rfl ?_ (by first|omega|(simp;done)|(simp;omega)) (by unfold maxLen;omega)
    change br _ _ _ (madeCells (Value.agg #[.int .i64 0,.int .i64 0]).cells ((2*d.ae.length+1)*2))
    rw[HZ.out]
    repeat(first|((with_reducible refine br.new' _ _ _ ?_);(simp;done))|with_reducible refine br.alloc ?_ _|with_reducible refine br.drew ?_|with_reducible refine br.kp ?_ hk1)
 case rest=>
  obtain⟨hkc,hS⟩:=hcut
  have hr':=Lib.hid hr
  clear hm hr E0 E1
  go_upto_region 3 with(fail)
  go_cut [6,7] (fun ci co wx=>Kp (w.alloc (.cells #[.slice A d.ae.length cap,.int .i64 d.loops] 24)) wx/\Bs d w wx u5 ci co 0)
  case first=>
   go_region
   all_goals
    have lk:=hkc.size
    simp at lk
    go_wp2_with fail
    go_meet
    refine⟨?_,?_,_,_,rfl,rfl,?_,?_,?_⟩
    ·repeat(with_reducible (first|exact Kp.refl _|refine Kp.alloc ?_ _|refine Kp.drew ?_|refine Kp.trans ?_ hkc))
    ·refine hS.kp ?_
     repeat(with_reducible (first|exact Kp.refl _|refine Kp.alloc ?_ _|refine Kp.drew ?_))
    ·omega
    ·rw[abh]
     refine fD.aez (Ow.made (C:=CM) (z:=.int .i64 0) rfl ?_ (by first|omega|(simp;done)|(simp;omega)) (by unfold maxLen;omega))
     change br _ _ _ (madeCells (Value.int .i64 0).cells ((2*d.ae.length+1)*1))
     rw[HY.out]
     repeat(first|((with_reducible refine br.new' _ _ _ ?_);(simp;done))|with_reducible refine br.alloc ?_ _|with_reducible refine br.drew ?_)
    ·rw[abh]
     refine fD.aez (Ow.made (C:=CM) (z:=.int .i64 0) rfl ?_ (by first|omega|(simp;done)|(simp;omega)) (by unfold maxLen;omega))
     change br _ _ _ (madeCells (Value.int .i64 0).cells ((2*d.ae.length+1)*1))
     rw[HY.out]
     repeat(first|((with_reducible refine br.new' _ _ _ ?_);(simp;done))|with_reducible refine br.alloc ?_ _|with_reducible refine br.drew ?_)
  case rest=>
   clear hkc hS hm2 W0 W1
   obtain⟨hkc,⟨g,A1,c1,gi,go,rfl,hb,n1,hl,o1,o2,o3⟩,ga,gb,rfl,rfl,n2,o4,o5⟩:=hcut
   have hQ:Bq d (w.heap.size+1) g A1 c1 gi go ga gb wc 0:=⟨hb,o1,o2,o3,o4,o5,n1,n2,by omega⟩
   clear hb n1 n2 o1 o2 o3 o4 o5
   have hkx:Kp w wc:=hkc.al
   have hx:=(br.new w 24 #[.slice A d.ae.length cap,.int .i64 d.loops]).kp hkc
   obtain⟨e0,e1,e2,e3⟩:=hx.two
   clear HZ HY
   go_wp2_with fail
   go_loopw [43] (fun i wr=>∃n:Nat,n<=d.ae.length/\i=.int .i64 n/\Kp w wr/\Bq d (w.heap.size+1) g A1 c1 gi go ga gb wr (4*n)/\Hid (∀j,j<4*n->1<=bh d j/\bh d j<=2*(d.ae.length:Int))) (fun i _=>d.ae.length-(intOf i).toNat)
   case atStart=>exact⟨0,Nat.zero_le _,rfl,hkx,hQ,fun j hj=>by omega⟩
   case round=>
    clear hQ hkx e0 e1 e2 e3 hx hkc
    obtain⟨n,hn',rfl,hk,hQ,hrg⟩:=hrel
    by_cases hlt:n<d.ae.length
    ·obtain⟨b,off,rfl,hb1,k0,k1,k2,k3,k4⟩:=Mw (hr'.out.kp hk) hlt
     obtain⟨wo,rfl⟩:∃wo:World,wo=wr:=⟨_,rfl⟩
     obtain⟨l0,l1,l2,l3,l4⟩:=zH hb1
     have hx:=br.new wo 77 #[.int .i64 (Go.Proofs.YthppkofceancjaaGreat.ga d.ae n).a,.int .i64 (Go.Proofs.YthppkofceancjaaGreat.ga d.ae n).b,.int .i64 (Go.Proofs.YthppkofceancjaaGreat.ga d.ae n).c,.int .i64 (Go.Proofs.YthppkofceancjaaGreat.ga d.ae n).d,.bool (Go.Proofs.YthppkofceancjaaGreat.ga d.ae n).plus]
     have hx0:∀k,k<4->bh d (4*n+k)=wZ (Go.Proofs.YthppkofceancjaaGreat.ga d.ae n) k/\cm d ((4*n+k)/4) ((4*n+k)%4)=nI (Go.Proofs.YthppkofceancjaaGreat.ga d.ae n) k/\(4*n+k)/4=n/\(4*n+k)%4=k:=fun k hk=>by
      have h1:(4*n+k)/4=n:=by omega
      have h2:(4*n+k)%4=k:=by omega
      unfold bh cz cm
      rw[h1,h2]
      exact⟨rfl,rfl,rfl,rfl⟩
     have HX:=Lib.hid hx0
     clear hx0
     generalize Go.Proofs.YthppkofceancjaaGreat.ga d.ae n=x at*
     go_wp2_with fail
     go_loopw [48] (fun i wr=>∃m:Nat,m<=4/\i=.int .i64 m/\Kp w wr/\Bq d (w.heap.size+1) g A1 c1 gi go ga gb wr (4*n+m)/\Hid (∀j,j<4*n+m->1<=bh d j/\bh d j<=2*(d.ae.length:Int))/\
      br wr wo.heap.size 77 #[.int .i64 x.a,.int .i64 x.b,.int .i64 x.c,.int .i64 x.d,.bool x.plus]) (fun i _=>4-(intOf i).toNat)
     case atStart=>exact⟨0,Nat.zero_le _,rfl,hk.alloc _,hQ.kp ((Kp.refl _).alloc _),hrg.out,hx⟩
     case round=>
      clear hQ hk hrg hx k0 k1 k2 k3 k4 l0 l1 l2 l3 l4 hb1
      obtain⟨m,hm,rfl,hk,hQ,hrg,hx⟩:=hrel
      by_cases jA:m<4
      ·obtain⟨k0,k1,k2,k3,k4⟩:=hx.cr
       obtain⟨l0,l1,l2,l3,l4⟩:=zH hx.lt
       obtain⟨hj,hen,hq1,hq2⟩:=HX.out m jA
       by_cases hlo:1<=wZ x m
       ·by_cases hhi:wZ x m<=2*(d.ae.length:Int)
        ·obtain⟨a,ha⟩:=Int.eq_ofNat_of_zero_le (show 0<=wZ x m by omega)
         rw[ha]at hlo hhi hj
         have ha':=Lib.hid ha
         clear ha
         cases he:nI x m
         ·rw[he]at hen
          have he':=Lib.hid he
          have hN:=fun w' (h:Bq d (w.heap.size+1) g A1 c1 gi go ga gb w' (4*n+m))=>h.anY (a:=a) (by omega) hj hen
          rw[hq1,hq2]at hN
          have HN:=Lib.hid hN
          have hj':=Lib.hid hj
          clear hN hj hen hq1 hq2 he
          go_wp2_with fail
          refine(Fg x m _ jA).mono ?_;rintro e w1 ⟨rfl,hk1⟩
          rw[ha'.out]
          obtain⟨cc,cf⟩:=hk1.cf (n:=wr.heap.size) rfl
          go_wp2_with fail
          refine(abf x m _ jA).mono ?_;rintro e w2 ⟨rfl,hk2⟩
          rw[he'.out]
          clear cc cf
          have mh:=(hQ.kp hk1).kp hk2
          have hx2:=(hx.kp hk1).kp hk2
          have b1:wo.heap.size≠go:=fun e=>uq mh.tu hx2 (by decide) (by rw[e];rfl)
          have b2:wo.heap.size≠gb:=fun e=>uq (lB mh.co) hx2 (by decide) (by rw[e];rfl)
          have b3:=(mh.tu.lt go rfl).1
          have b4:=(mh.co.lt gb rfl).1
          obtain⟨s0,s1,s2,s3⟩:=mh.sh.four
          obtain⟨x0,y0,X,t0,t1,t2,t3,t4,t5,t6,t7,hX,X0,X1⟩:=mh.ao8 (a:=a) (by omega)
          go_wp2_with fail
          go_roundw
          case rel=>
           have hq:=HN.out w2 mh
           rw[hX.out]at hq
           exact⟨m+1,by omega,by go_num,((((hk.trans hk1).trans hk2).setCell (p:=⟨go,a*2,none⟩) (by simp;omega) _).setCell (p:=⟨go,a*2+1,none⟩) (by simp;omega) _).setCell (p:=⟨gb,a,none⟩) (by simp;omega) _,hq,
            fun j h=>by
             rcases Nat.lt_or_ge j (4*n+m)with h1|h1
             ·exact hrg.out j h1
             ·obtain rfl:j=4*n+m:=by omega
              rw[hj'.out];omega,
            ((hx2.far (p:=⟨go,a*2,none⟩) b1 _).far (p:=⟨go,a*2+1,none⟩) b1 _).far (p:=⟨gb,a,none⟩) b2 _⟩
          case measure=>simp[intOf]<;>omega
         ·rw[he]at hen
          have he':=Lib.hid he
          have hN:=fun w' (h:Bq d (w.heap.size+1) g A1 c1 gi go ga gb w' (4*n+m))=>h.apP (a:=a) (by omega) hj hen
          rw[hq1,hq2]at hN
          have HN:=Lib.hid hN
          have hj':=Lib.hid hj
          clear hN hj hen hq1 hq2 he
          go_wp2_with fail
          refine(Fg x m _ jA).mono ?_;rintro e w1 ⟨rfl,hk1⟩
          rw[ha'.out]
          obtain⟨cc,cf⟩:=hk1.cf (n:=wr.heap.size) rfl
          go_wp2_with fail
          refine(abf x m _ jA).mono ?_;rintro e w2 ⟨rfl,hk2⟩
          rw[he'.out]
          clear cc cf
          have mh:=(hQ.kp hk1).kp hk2
          have hx2:=(hx.kp hk1).kp hk2
          have b1:wo.heap.size≠gi:=fun e=>uq mh.ti hx2 (by decide) (by rw[e];rfl)
          have b2:wo.heap.size≠ga:=fun e=>uq (lB mh.ci) hx2 (by decide) (by rw[e];rfl)
          have b3:=(mh.ti.lt gi rfl).1
          have b4:=(mh.ci.lt ga rfl).1
          obtain⟨s0,s1,s2,s3⟩:=mh.sh.four
          obtain⟨x0,y0,X,t0,t1,t2,t3,t4,t5,t6,t7,hX,X0,X1⟩:=mh.arl (a:=a) (by omega)
          go_wp2_with fail
          go_roundw
          case rel=>
           have hq:=HN.out w2 mh
           rw[hX.out]at hq
           exact⟨m+1,by omega,by go_num,((((hk.trans hk1).trans hk2).setCell (p:=⟨gi,a*2,none⟩) (by simp;omega) _).setCell (p:=⟨gi,a*2+1,none⟩) (by simp;omega) _).setCell (p:=⟨ga,a,none⟩) (by simp;omega) _,hq,
            fun j h=>by
             rcases Nat.lt_or_ge j (4*n+m)with h1|h1
             ·exact hrg.out j h1
             ·obtain rfl:j=4*n+m:=by omega
              rw[hj'.out];omega,
            ((hx2.far (p:=⟨gi,a*2,none⟩) b1 _).far (p:=⟨gi,a*2+1,none⟩) b1 _).far (p:=⟨ga,a,none⟩) b2 _⟩
          case measure=>simp[intOf]<;>omega
        ·have hno:=Lib.hid (ab5 (d:=d) (j:=4*n+m) (by omega) (by rw[hj];omega))
         clear hj hen hq1 hq2
         go_wp2_with fail
         refine(Fg x m _ jA).mono ?_;rintro e w1 ⟨rfl,hk1⟩
         go_wp2_with fail
         go_ret2
         exact .inl ⟨hno.out,rfl,hk.trans hk1⟩
       ·have hno:=Lib.hid (ab5 (d:=d) (j:=4*n+m) (by omega) (by rw[hj];omega))
        clear hj hen hq1 hq2
        go_wp2_with fail
        refine(Fg x m _ jA).mono ?_;rintro e w1 ⟨rfl,hk1⟩
        go_wp2_with fail
        go_ret2
        exact .inl ⟨hno.out,rfl,hk.trans hk1⟩
      ·obtain rfl:m=4:=by omega
       go_wp2_with fail
       go_roundw
       case rel=>exact⟨n+1,by omega,by go_num,hk,hQ,hrg.out⟩
       case measure=>simp[intOf]<;>omega
    ·obtain rfl:n=d.ae.length:=by omega
     go_wp2_with fail
     obtain⟨wo,rfl⟩:∃wo:World,wo=wr:=⟨_,rfl⟩
     go_loop [12] (fun i=>∃a:Nat,1<=a/\a<=2*d.ae.length+1/\i=.int .i64 a/\Hid (∀a':Nat,1<=a'->a'<a->lM d a'=true)) (fun i=>2*d.ae.length+1-(intOf i).toNat)
     case atStart=>exact⟨1,by omega,by omega,rfl,fun a h1 h2=>by omega⟩
     case round=>
      obtain⟨a,ha0,ha1,rfl,hok⟩:=hrel
      by_cases lV:a<=2*d.ae.length
      ·have ca:=hQ.ci.cell (i:=a) (by rw[pq];omega)
       have cb:=hQ.co.cell (i:=a) (by rw[pq];omega)
       rw[pn (by omega)]at ca cb
       have hao:lM d a=(cV d a false (4*d.ae.length)==1&&cV d a true (4*d.ae.length)==1):=rfl
       generalize cV d a false (4*d.ae.length)=X at*
       generalize cV d a true (4*d.ae.length)=Y at*
       by_cases hX:X=1
       ·subst hX
        by_cases hY:Y=1
        ·subst hY
         have ast:Hid (lM d a=true):=hao
         clear hao
         go_wp2_with fail
         go_round
         case rel=>exact⟨a+1,by omega,by omega,by go_num,fun a' h1 h2=>by
          rcases Nat.lt_or_ge a' a with h|h
          ·exact hok.out a' h1 h
          ·obtain rfl:a'=a:=by omega
           exact ast.out⟩
         case measure=>simp[intOf]<;>omega
        ·have hno:=Lib.hid (ab6 ha0 lV (by rw[hao];simp[hY]))
         have t1:(((Y:Int)!=1):Bool)=true:=by simp only[bne_iff_ne,ne_eq];omega
         clear hao hY
         go_wp2_with fail
         go_ret2
         exact .inl ⟨hno.out,rfl,hk⟩
       ·have hno:=Lib.hid (ab6 ha0 lV (by rw[hao];simp[hX]))
        have t1:(((X:Int)!=1):Bool)=true:=by simp only[bne_iff_ne,ne_eq];omega
        clear hao hX
        go_wp2_with fail
        go_ret2
        exact .inl ⟨hno.out,rfl,hk⟩
      ·have arn:=Lib.hid (ajs (d:=d) fun a' h1 h2=>hok.out a' h1 (by omega))
       go_wp2_with fail
       go_ret2
       obtain⟨g',A',c',VF,go',r1,r2,r3⟩:=hQ.ark
       exact .inr ⟨arn.out,_,rfl,hk,g',A',c',VF,go',r1,by omega,r3.1,r3.2.1,r3.2.2.1.base (by omega),r3.2.2.2.1.base (by omega),r3.2.2.2.2.base (by omega)⟩
theorem akd{n:Nat}{loops:Int}(h:¬(n<=16/\0<=loops/\loops<=16/\¬(n=0/\loops=0))):16<n\/(n<=16/\loops<0)\/(n<=16/\16<loops)\/(n=0/\loops=0):=by omega
set_option maxRecDepth 100000 in
set_option maxHeartbeats 2000000 in
theorem alB(v:Value)(d:Dg)(w:World)(hd:nM w w.heap.size v d):Calls Tryz.prog 64 #[v] w (abq (iC d) d w):=by
 obtain⟨A,cap,rfl,hcap,hr⟩:=hd
 have hrm:d.ae.length*40<=140737488355328:=hr.room
 by_cases h:d.ae.length<=16/\0<=d.loops/\d.loops<=16/\¬(d.ae.length=0/\d.loops=0)
 ·have hm:iC d=Uu d:=by rw[IQ,decide_eq_true h,Bool.true_and]
  rw[hm]
  clear hm
  obtain⟨h1,h2,h3,h4⟩:=h
  have hb:=Lib.hid fun w' (hk:Kp w w')=>ajr (.agg #[.slice A d.ae.length cap,.int .i64 d.loops]) d w' ⟨A,cap,rfl,hcap,hr.kp hk⟩ h1
  have t1:((((d.ae.length:Int)+d.loops)==0):Bool)=false:=by rw[beq_eq_false_iff_ne];omega
  clear h4 hr
  generalize Uu d=b at*
  go_enter Tryz.func64,Tryz.ntmps64
  go_wp2_with fail
  refine(hb.out _ ((Kp.refl _).alloc _)).mono ?_
  rintro e w1 (⟨hb0,rfl,hk⟩|⟨hb1,v,rfl,hk,hs⟩)
  ·have asr:=Lib.hid hb0
   clear hb0
   go_wp2_with fail
   go_ret2
   exact .inl ⟨asr.out,rfl,hk.al⟩
  ·have asq:=Lib.hid hb1
   clear hb1
   go_wp2_with fail
   go_ret2
   obtain⟨g',A',c',VF,go',r1,r2,r3⟩:=hs
   simp at r2
   exact .inr ⟨asq.out,v,rfl,hk.al,g',A',c',VF,go',r1,by omega,r3.1,r3.2.1,r3.2.2.1.base (by simp),r3.2.2.2.1.base (by simp),r3.2.2.2.2.base (by simp)⟩
 ·rw[aaY h]
  have hc:=akd h
  clear h hr
  obtain⟨cs,loops⟩:=d
  dsimp only at*
  generalize cs.length=n at*
  rcases hc with hc|⟨hc,hc'⟩|⟨hc,hc'⟩|⟨rfl,rfl⟩
  all_goals
   go_enter Tryz.func64,Tryz.ntmps64
   go_wp2_with fail
   go_ret2
   exact .inl ⟨rfl,rfl,(Kp.refl _).alloc _⟩
end Go.Proofs.YthppkofceancjaaGreat
namespace Go.Proofs.YthppkofceancjaaGreat
open Go.ChangeShapes Go.WideShapes Go.ChangeAt Go.RowKit
theorem Ow.rd{α:Type}{C:kP α}{E:TypeId}{w:World}{b n c:Nat}{A:Option Addr}{xs:List α}(h:Ow C E w b (.slice A n c) xs)(hr:xs.length*C.u8<=140737488355328):Rd C w w.heap.size A xs:=by
 obtain rfl:=h.uJ
 exact Sl.J3 h hr
theorem Hf.look{w:World}{b0:Nat}{v:Value}{d:Dg}(h:Hf w b0 v d)(hn:d.ae.length<=16):∃g A c gi go,v=.pointer (some ⟨g,0,none⟩)/\g<w.heap.size/\gi<w.heap.size/\go<w.heap.size/\
  w.cell? ⟨g,0,none⟩=some (.slice A d.ae.length c)/\w.cell? ⟨g,1,none⟩=some (.int .i64 d.loops)/\
  w.cell? ⟨g,2,none⟩=some (.slice (some ⟨gi,0,none⟩) (2*d.ae.length+1) (2*d.ae.length+1))/\w.cell? ⟨g,3,none⟩=some (.slice (some ⟨go,0,none⟩) (2*d.ae.length+1) (2*d.ae.length+1))/\
  Rd kr w w.heap.size A d.ae/\
  Hid (∀a,a<2*d.ae.length+1->w.cell? ⟨gi,a*2,none⟩=some (.int .i64 (lastP d a false (4*d.ae.length)).1)/\w.cell? ⟨gi,a*2+1,none⟩=some (.int .i64 (lastP d a false (4*d.ae.length)).2))/\
  Hid (∀a,a<2*d.ae.length+1->w.cell? ⟨go,a*2,none⟩=some (.int .i64 (lastP d a true (4*d.ae.length)).1)/\w.cell? ⟨go,a*2+1,none⟩=some (.int .i64 (lastP d a true (4*d.ae.length)).2)):=by
 obtain⟨g,A,c,gi,go,rfl,r2,r3,r4,r5,r6,r7⟩:=h
 obtain⟨s0,s1,s2,s3⟩:=r4.four
 refine⟨g,A,c,gi,go,rfl,r4.lt,(r6.lt gi rfl).2,(r7.lt go rfl).2,s0,s1,s2,s3,r5.rd (by show d.ae.length*40<=_;omega),fun a ha=>?_,fun a ha=>?_⟩
 ·have h0:=r6.cell (i:=a) (by rw[jo];exact ha) (j:=0) (by decide) rfl
  have h1:=r6.cell (i:=a) (by rw[jo];exact ha) (j:=1) (by decide) rfl
  rw[tO ha]at h0 h1
  exact⟨h0,h1⟩
 ·have h0:=r7.cell (i:=a) (by rw[jo];exact ha) (j:=0) (by decide) rfl
  have h1:=r7.cell (i:=a) (by rw[jo];exact ha) (j:=1) (by decide) rfl
  rw[tO ha]at h0 h1
  exact⟨h0,h1⟩
theorem ab0{d:Dg}(h:Uu d=true){a:Nat}(h0:1<=a)(h1:a<=2*d.ae.length)(back:Bool):
  (aX d a back).1<d.ae.length/\(aX d a back).2<4/\lastP d a back (4*d.ae.length)=aX d a back/\cz d (aX d a back).1 (aX d a back).2=a/\cm d (aX d a back).1 (aX d a back).2=!back:=by
 have hc:cV d a back (4*d.ae.length)=1:=by cases back<;>simp[IX h a h0 h1]
 obtain⟨j,j1,j2,j3,j4⟩:=Jg hc
 have e:=aa0 hc
 rw[j4]at e
 rw[<-e]
 dsimp only
 unfold gA at j2
 rw[Bool.and_eq_true,decide_eq_true_iff]at j2
 refine⟨by omega,by omega,by rw[j4],j2.1,?_⟩
 have:=j2.2
 cases back<;>cases hq:cm d (j/4) (j%4)<;>simp_all
end Go.Proofs.YthppkofceancjaaGreat
namespace Go.Proofs.YthppkofceancjaaGreat
open Go.ChangeShapes Go.WideShapes Go.ChangeAt Go.RowKit
def cw:Cd (Nat×Nat):=⟨rf,2,16,190,(0,0),fun _=>rfl,by
 intro x u hu
 simp[rf]at hu
 rcases hu with rfl|rfl<;>rfl⟩
section
variable {w w' : World} {M : Hp} {X : Fr} {H H' : List Rs}
theorem Kp.like(h:Kp w w'):gB w w':=⟨h.os,h.tape,h.output,h.size⟩
theorem SH.old(S:SH w M X H)(h:Kp w w'):SH w' M X H:=S.kp h.like fun b hb=>h.block b hb
theorem SH.F8{r:Rs}(S:SH w M X [])(S':SH w' M X H')(hr:r.ok (hp w'))(hb:∀b∈r.bl,w.heap.size<=b/\b<w'.heap.size)(Gv:∀s∈H',∀b∈r.bl,b∉s.bl):SH w' M X (r::H'):=by
 have fresh:∀b,w.heap.size<=b->M b=none/\X.h b=none:=fun b hge=>by
  constructor
  ·cases hm:M b with
   |none=>rfl
   |some o=>have:=fU (S.m b o hm);omega
  ·cases hm:X.h b with
   |none=>rfl
   |some o=>have:=fU (S.x b o hm);omega
 refine⟨S'.m,S'.x,S'.mx,fun s hs=>?_,fun s hs b hbs=>?_,fun j k s t hjk hs ht b hbs=>?_,S'.like⟩
 ·rcases List.mem_cons.1 hs with rfl|hs
  ·exact hr
  ·exact S'.ok s hs
 ·rcases List.mem_cons.1 hs with rfl|hs
  ·exact⟨(hb b hbs).2,fresh b (hb b hbs).1⟩
  ·exact S'.bl s hs b hbs
 ·cases j with
  |zero=>
   cases k with
   |zero=>exact absurd rfl hjk
   |succ k=>
    simp only[List.getElem?_cons_zero,Option.some.injEq,List.getElem?_cons_succ]at hs ht
    subst hs
    exact Gv t (List.mem_of_getElem? ht) b hbs
  |succ j=>
   cases k with
   |zero=>
    simp only[List.getElem?_cons_zero,Option.some.injEq,List.getElem?_cons_succ]at hs ht
    subst ht
    exact fun iK=>Gv s (List.mem_of_getElem? hs) b iK hbs
   |succ k=>
    simp only[List.getElem?_cons_succ]at hs ht
    exact S'.ap j k s t (by omega) hs ht b hbs
theorem aB.dg{N:Hp}{A:Option Addr}{c:Nat}{d:Dg}(h:aB bw N A c d.ae)(hN:N.le (hp w)):nM w w.heap.size (.agg [.slice A d.ae.length c,.int .i64 d.loops].toArray) d:=by
 refine⟨A,c,rfl,h.1,⟨kK kr.hf _,h.2.1,fun h0=>?_⟩⟩
 have hlen:0<d.ae.length:=by simpa using h0
 obtain⟨e,cs,T,fz,hc,_⟩:=h.2.2 hlen
 refine⟨adB A,pg A,e,fU (hN _ _ hc),fun j u hu=>?_⟩
 exact h.cells hN j u hu
theorem amg{f:FuncId}{vs:List Value}{b:Bool}(S:SH w M X [])(h:Calls Tryz.prog f vs.toArray w (yN b w)):Cq Tryz.prog f vs w M X (fun u=>u=.bool b):=
 h.mono fun e w' ⟨he,hk⟩=>⟨_,he,S.old hk,rfl⟩
theorem aip(d:Dg){A:Option Addr}{c:Nat}(h:aB bw (M.un X.h) A c d.ae)(S:SH w M X []):Cq Tryz.prog 31 [.agg [.slice A d.ae.length c,.int .i64 d.loops].toArray] w M X (fun u=>u=.bool (iC d)):=
 amg S (aii _ d w (h.dg S.um))
end
def ShV(d:Dg)(vi vo:Value):Prop:=∃gi go,vi=.slice (some ⟨gi,0,none⟩) (2*d.ae.length+1) (2*d.ae.length+1)/\vo=.slice (some ⟨go,0,none⟩) (2*d.ae.length+1) (2*d.ae.length+1)/\gi≠go
def azp(d:Dg)(v:Value)(N:List Rs):Prop:=
 (iC d=false/\v=.tuple [.pointer none,.bool false].toArray/\N=[])\/
 (iC d=true/\∃g vc vi vo,v=.tuple [.pointer (some ⟨g,0,none⟩),.bool true].toArray/\
  N=[Rs.box g 70 [vc,.int .i64 d.loops,vi,vo],Rs.row bw vc d.ae,Rs.row cw vi (aN d false (4*d.ae.length)),Rs.row cw vo (aN d true (4*d.ae.length))]/\ShV d vi vo)
theorem mW{α:Type}{C:Cd α}{v:Value}{xs:List α}{b:Nat}(h:b∈(Rs.row C v xs).bl):v.ownBlock=some b:=by simpa[Rs.row]using h
theorem aqy {w : World} {M : Hp} {X : Fr} (d : Dg) {A : Option Addr} {c : Nat} (h : aB bw (M.un X.h) A c d.ae) (S : SH w M X []) : Co Tryz.prog 64 [.agg [.slice A d.ae.length c, .int .i64 d.loops].toArray] w M X (azp d) := by
  refine (alB _ d w (h.dg S.um)).mono ?_
  rintro e w' (⟨hm, rfl, hk⟩ | ⟨hm, v, rfl, hk, g, B, cp, gi, go, rfl, hg, hne, hb, hc, hi, ho⟩)
  · exact ⟨_, rfl, [], S.old hk, .inl ⟨hm, rfl, rfl⟩⟩
  · have hci := hc.lh hi (by decide)
    have hco := hc.lh ho (by decide)
    have hcb := hc.Fq hb (by decide)
    have hib := hi.Fq hb (by decide)
    have hob := ho.Fq hb (by decide)
    have S0 := S.old hk
    have S1 : SH w' M X [Rs.row cw (.slice (some ⟨go, 0, none⟩) (2 * d.ae.length + 1) (2 * d.ae.length + 1)) (aN d true (4 * d.ae.length))] :=
      S.F8 S0 (eW.EZ (C := cw) (ho.base (Nat.zero_le _))) (fun b hb => ho.lt b (mW hb)) (by simp)
    have S2 := S.F8 S1 (r := Rs.row cw (.slice (some ⟨gi, 0, none⟩) (2 * d.ae.length + 1) (2 * d.ae.length + 1)) (aN d false (4 * d.ae.length)))
      (eW.EZ (C := cw) (hi.base (Nat.zero_le _))) (fun b hb => hi.lt b (mW hb)) (fun s hs b hb hbs => by
        rw [List.mem_singleton] at hs
        subst hs
        have h1 := mW hb
        have h2 := mW hbs
        simp only [Value.ownBlock, Option.some.injEq] at h1 h2
        omega)
    have S3 := S.F8 S2 (r := Rs.row bw (.slice B d.ae.length cp) d.ae) (eW.EZ (C := bw) (hc.base (Nat.zero_le _))) (fun b hb => hc.lt b (mW hb)) (fun s hs b hb hbs => by
        have h1 := mW hb
        rcases List.mem_cons.1 hs with rfl | hs
        · rcases hci with h | h
          · rw [h] at h1; cases h1
          · exact h (h1.trans (mW hbs).symm)
        · rw [List.mem_singleton] at hs
          subst hs
          rcases hco with h | h
          · rw [h] at h1; cases h1
          · exact h (h1.trans (mW hbs).symm))
    have S4 := S.F8 S3 (r := Rs.box g 70 [.slice B d.ae.length cp, .int .i64 d.loops, .slice (some ⟨gi, 0, none⟩) (2 * d.ae.length + 1) (2 * d.ae.length + 1), .slice (some ⟨go, 0, none⟩) (2 * d.ae.length + 1) (2 * d.ae.length + 1)])
      hb (fun b hb' => by simp [Rs.box] at hb'; subst hb'; exact ⟨hg, hb.lt⟩) (fun s hs b hb' hbs => by
        simp [Rs.box] at hb'
        subst hb'
        rcases List.mem_cons.1 hs with rfl | hs
        · rcases hcb with h | h
          · have := mW hbs; rw [h] at this; cases this
          · exact h (mW hbs)
        · rcases List.mem_cons.1 hs with rfl | hs
          · rcases hib with h | h
            · have := mW hbs; rw [h] at this; cases this
            · exact h (mW hbs)
          · rw [List.mem_singleton] at hs
            subst hs
            rcases hob with h | h
            · have := mW hbs; rw [h] at this; cases this
            · exact h (mW hbs))
    exact ⟨_, rfl, _, S4, .inr ⟨hm, g, _, _, _, rfl, rfl, gi, go, rfl, rfl, hne⟩⟩
end Go.Proofs.YthppkofceancjaaGreat
