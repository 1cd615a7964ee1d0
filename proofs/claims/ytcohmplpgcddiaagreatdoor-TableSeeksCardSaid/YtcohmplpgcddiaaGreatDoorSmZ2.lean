/- Part 2 of the proof of the law TableSeeks: the walks through its functions and the plain laws that they need. -/
import Derived.Test.YtcohmplpgcddiaaGreatDoorSmZ1
import Derived.Test.YtcohmplpgcddiaaGreatDoorRows
import Derived.WalkKit
import Derived.ProofKit
import Derived.OpenShut
import Derived.SizedLaws
import Derived.Outline
import Derived.BigQuiet
import Derived.Deep.QuietTactic
import Derived.Deep.Draws
import Derived.IntWalk
import Derived.Lib.Hide
import Derived.Maps.AppendAt
import Derived.Deep.AppendLies
import Derived.Deep.DeepCutAuto
import Derived.Deep.CutBlock
import Derived.Deep.RegionWith
import Derived.Deep.RegionHeld3
import Derived.WalkSpells
set_option linter.unusedSimpArgs false
set_option linter.unusedVariables false
noncomputable section
namespace Go.Proofs.YtcohmplpgcddiaaGreatDoor
open Go.ChangeShapes Go.WideShapes Go.ChangeAt Go.RowKit
theorem PW:type_of%Tryz.underlying0:=Tryz.underlying0
theorem uT2:type_of%Tryz.underlying2:=Tryz.underlying2
theorem aG:type_of%Tryz.underlying3:=Tryz.underlying3
theorem gY:type_of%Tryz.underlying4:=Tryz.underlying4
theorem xZ:type_of%Tryz.underlying5:=Tryz.underlying5
theorem xY:type_of%Tryz.underlying9:=Tryz.underlying9
theorem JG:type_of%Tryz.underlying20:=Tryz.underlying20
theorem cE:type_of%Tryz.underlying22:=Tryz.underlying22
theorem aM:type_of%Tryz.underlying24:=Tryz.underlying24
theorem pH:type_of%Tryz.underlying25:=Tryz.underlying25
theorem JF:type_of%Tryz.underlying26:=Tryz.underlying26
theorem eA:type_of%Tryz.underlying33:=Tryz.underlying33
theorem eT:type_of%Tryz.underlying35:=Tryz.underlying35
theorem Xh:type_of%Tryz.underlying42:=Tryz.underlying42
theorem uh:type_of%Tryz.underlying44:=Tryz.underlying44
theorem aih:type_of%Tryz.underlying45:=Tryz.underlying45
theorem Xg:type_of%Tryz.underlying53:=Tryz.underlying53
theorem aif:type_of%Tryz.underlying54:=Tryz.underlying54
theorem yT:type_of%Tryz.underlying57:=Tryz.underlying57
theorem lB:type_of%Tryz.underlying60:=Tryz.underlying60
theorem qo:type_of%Tryz.underlying61:=Tryz.underlying61
theorem kX:type_of%Tryz.underlying63:=Tryz.underlying63
theorem vw:type_of%Tryz.underlying64:=Tryz.underlying64
theorem jy:type_of%Tryz.underlying66:=Tryz.underlying66
theorem b6:type_of%Tryz.underlying68:=Tryz.underlying68
theorem dR:type_of%Tryz.underlying80:=Tryz.underlying80
theorem dm:type_of%Tryz.underlying83:=Tryz.underlying83
theorem nG:type_of%Tryz.underlying87:=Tryz.underlying87
theorem FF:type_of%Tryz.underlying88:=Tryz.underlying88
theorem aie:type_of%Tryz.underlying92:=Tryz.underlying92
theorem aid:type_of%Tryz.underlying97:=Tryz.underlying97
theorem Db:type_of%Tryz.underlying98:=Tryz.underlying98
theorem Jk:type_of%Tryz.underlying101:=Tryz.underlying101
theorem nT:type_of%Tryz.underlying103:=Tryz.underlying103
theorem dX:type_of%Tryz.underlying106:=Tryz.underlying106
theorem agl:type_of%Tryz.underlying108:=Tryz.underlying108
theorem gT:type_of%Tryz.underlying110:=Tryz.underlying110
theorem agk:type_of%Tryz.underlying116:=Tryz.underlying116
theorem V3:type_of%Tryz.underlying118:=Tryz.underlying118
theorem agj:type_of%Tryz.underlying119:=Tryz.underlying119
theorem CR:type_of%Tryz.underlying120:=Tryz.underlying120
theorem agi:type_of%Tryz.underlying122:=Tryz.underlying122
theorem agh:type_of%Tryz.underlying125:=Tryz.underlying125
theorem agf:type_of%Tryz.underlying126:=Tryz.underlying126
theorem Fg:type_of%Tryz.underlying139:=Tryz.underlying139
theorem CQ:type_of%Tryz.underlying140:=Tryz.underlying140
theorem age:type_of%Tryz.underlying153:=Tryz.underlying153
theorem V2:type_of%Tryz.underlying156:=Tryz.underlying156
theorem tO:type_of%Tryz.underlying160:=Tryz.underlying160
theorem Ff:type_of%Tryz.underlying173:=Tryz.underlying173
theorem VZ:type_of%Tryz.underlying177:=Tryz.underlying177
theorem agd:type_of%Tryz.underlying180:=Tryz.underlying180
theorem VY:type_of%Tryz.underlying181:=Tryz.underlying181
theorem agc:type_of%Tryz.underlying184:=Tryz.underlying184
theorem agb:type_of%Tryz.underlying186:=Tryz.underlying186
theorem Fe:type_of%Tryz.underlying190:=Tryz.underlying190
theorem yH:type_of%Tryz.underlying191:=Tryz.underlying191
theorem Jj:type_of%Tryz.underlying196:=Tryz.underlying196
theorem aga:type_of%Tryz.underlying197:=Tryz.underlying197
theorem af9:type_of%Tryz.underlying198:=Tryz.underlying198
theorem VX:type_of%Tryz.underlying205:=Tryz.underlying205
theorem af8:type_of%Tryz.underlying207:=Tryz.underlying207
theorem af7:type_of%Tryz.underlying208:=Tryz.underlying208
theorem Nc:type_of%Tryz.underlying209:=Tryz.underlying209
theorem af6:type_of%Tryz.underlying211:=Tryz.underlying211
theorem af5:type_of%Tryz.underlying217:=Tryz.underlying217
theorem af4:type_of%Tryz.underlying218:=Tryz.underlying218
theorem af3:type_of%Tryz.underlying220:=Tryz.underlying220
theorem af2:type_of%Tryz.underlying221:=Tryz.underlying221
end Go.Proofs.YtcohmplpgcddiaaGreatDoor
namespace Go.Proofs.YtcohmplpgcddiaaGreatDoor
open Go.ChangeShapes Go.WideShapes Go.ChangeAt Go.RowKit
section
variable {P : Program} {n : Nat} {C : Ctx} {c : Code} {s : List K} {L : List (Nat × Value)} {w : World} {M : Hp} {X : Fr} {H : List Rs}
theorem fe(a b:Code)(hk:kind c=1)(ha:cL c=a)(hb:cR c=b)(h:WS P n C a (.thn b::s) L w):WS P n C c s L w:=by subst ha;subst hb;exact IB hk h
theorem xH(a:Code)(i:Nat)(hk:kind c=3)(ha:cL c=a)(hi:u7 c=i)(h:WS P n C a (.blk i::s) L w):WS P n C c s L w:=by subst ha;subst hi;exact Ti hk h
theorem zk(x y:Code){b:Bool}(hk:kind c=2)(hb:oev L (cX c)=some (.bool b))(hx:cL c=x)(hy:cR c=y)(ht:b=true->WS P n C x s L w)(hf:b=false->WS P n C y s L w):WS P n C c s L w:=by subst hx;subst hy;exact Et hk hb ht hf
theorem K9(x:Code)(hk:kind c=2)(hb:oev L (cX c)=some (.bool true))(hx:cL c=x)(ht:WS P n C x s L w):WS P n C c s L w:=by subst hx;exact Tf hk hb ht
theorem DI(y:Code)(hk:kind c=2)(hb:oev L (cX c)=some (.bool false))(hy:cR c=y)(hf:WS P n C y s L w):WS P n C c s L w:=by subst hy;exact Tg hk hb hf
theorem Fb{a:Act}{c':Code}(ha:Env n L a)(hc:c'=c)(h:WS P n C c s L w):c'.wp P (post P C s) a w:=by subst hc;exact h a ha
theorem ck(I:Nat->Act->World->Prop)(hk:kind c=4)(h0:∀a,Env n L a->∃k,I k a w)
  (round:∀k a w,I k a w->(cL c).wp P (post P C (.lp (fun a' w'=>∃k',k'<k/\I k' a' w')::s)) a w):WS P n C c s L w:=by
 intro a ha
 rw[SC hk]
 have key:∀m k,k<m->∀a w,I k a w->Code.rounds P (cL c) (post P C s) m a w:=by
  intro m
  induction m with
  |zero=>intro k hk;omega
  |succ m ih=>
   intro k hk a w hi
   rw[rounds_succ]
   refine Code.wp_mono (fun e a w q=>?_) (round k a w hi)
   cases e with
   |normal=>
    obtain⟨k',hlt,hi'⟩:=q
    exact ih k' (by omega) a w hi'
   |_=>exact q
 obtain⟨k0,h1⟩:=h0 a ha
 exact wp_loop_rounds (k0+1) (key (k0+1) k0 (by omega) a w h1)
theorem z6(J:Act->World->Prop)(h1:WS P n C c (.lp J::s) L w)(h2:∀a w,J a w->post P C s .normal a w):WS P n C c s L w:=by
 intro a ha
 refine Code.wp_mono (fun e a w q=>?_) (h1 a ha)
 cases e with
 |normal=>exact h2 a w q
 |_=>exact q
theorem Au{a:Act}(ha:Env n L a)(h:NM P n C s L w):post P C s .normal a w:=h a ha
theorem KX{o:Oper}{x:Operand}{p:Addr}(ho:o.op=.nilCheck x)(hx:oev L x=some (.pointer (some p))):Run P o L w (.pointer (some p)) w:=by
 intro n c hc;unfold execOp;simp only[ho,hc.eval hx];rfl
theorem iZ(t:Nat){v:Value}(v':Value)(hl:lk L t=some v)(e:v=v')(h:WS P n C c s ((t,v')::L) w):WS P n C c s L w:=by
 subst e
 exact fun a ha=>h a ⟨ha.sz,ha.df,fun u x hx=>by
  rw[wE]at hx
  split at hx
  ·rename_i e;subst e;injection hx with hx;subst hx;exact ha.at_ _ _ hl
  ·exact ha.at_ _ _ hx⟩
theorem dz{k:Nat}(t:Nat){v:Value}(v':Value)(hl:lk L t=some v)(e:v=v')(h:WL P n C c k s ((t,v')::L) w):WL P n C c k s L w:=by
 subst e
 exact fun a ha=>h a ⟨ha.sz,ha.df,fun u x hx=>by
  rw[wE]at hx
  split at hx
  ·rename_i e;subst e;injection hx with hx;subst hx;exact ha.at_ _ _ hl
  ·exact ha.at_ _ _ hx⟩
theorem Ls{Mb:Hp}{Hb:List Rs}{f:Nat}{l:Array Bool}{t:Nat}{b:Bool}(hl:lk L t=some (.bool b))(ht:b=true->WA P n C c s X f l ((t,.bool true)::L) Mb Hb M H)(hf:b=false->WA P n C c s X f l ((t,.bool false)::L) Mb Hb M H):WA P n C c s X f l L Mb Hb M H:=by
 have key:∀b',b=b'->WA P n C c s X f l ((t,.bool b')::L) Mb Hb M H->WA P n C c s X f l L Mb Hb M H:=by
  intro b' e h hg a ha
  refine h hg a ⟨ha.sz,ha.df,fun u v hv=>?_⟩
  rw[wE]at hv
  split at hv
  ·rename_i e2;subst e2;injection hv with hv;subst hv;subst e;exact ha.at_ _ _ hl
  ·exact ha.at_ _ _ hv
 cases b
 ·exact key false rfl (hf rfl)
 ·exact key true rfl (ht rfl)
theorem gw{α:Type}{C:Cd α}{xs:List α}{o:Oper}{d g i q c:Nat}{t E:TypeId}{l:List Value}{Kt:List (Nat×Value)->World->Prop}(y:α){ca:Call}{ops:List Operand}{ts:List TypeId}{rv:Value}(hop:o.op=.call ca)(eG:ca.callee=.builtin .append)(hxs:ca.args=ops.toArray)(hts:ca.argTypes=ts.toArray)(hd:o.dst=some d)(hn:Nat.blt d n=true)
  (hx:oevs L ops=some [rv,.slice (some ⟨g,0,none⟩) 1 c])(ht:ts=[t,t])(hT:jt P t C)(S:SH w M X H)(hi:nth H i=some (Rs.row C rv xs))(hq:nth H q=some (Rs.box g E l))(hl:l=C.f y)(hr:(xs.length+1)*C.u8<=140737488355328)
  (h:∀v' w',SH w' M X (H.set i (Rs.row C v' (xs++[y])))->Kt ((d,v')::L) w'):WO P n o L w Kt:=by
 refine Sb (ys:=[y]) hop eG hxs hts hd hn hx ht hT S hi (.inr ⟨_,rfl,fun j u hu=>?_⟩) hr h
 rw[List.flatMap_cons,List.flatMap_nil,List.append_nil,<-hl]at hu
 have:=S.nJ hq (o:=j) (u:=u) (by rw[ig];exact hu)
 unfold Addr.add
 split
 ·rename_i e;subst e;exact this
 ·simpa using this
end
theorem SH.one{α:Type}{D:Cd α}{v:Value}{xs:List α}{w:World}{M:Hp}{X:Fr}{H:List Rs}{i:Nat}(S:SH w M X H)(hi:nth H i=some (Rs.row D v xs)):v.oneCell'=true:=by
 obtain⟨A,c,rfl,_⟩:=S.sl hi
 rfl
theorem SH.nS{α:Type}{D:Cd α}{v:Value}{xs:List α}{w:World}{M:Hp}{X:Fr}{H:List Rs}{i:Nat}(S:SH w M X H)(hi:nth H i=some (Rs.row D v xs)):v.cells.toList=[v]:=by
 obtain⟨A,c,rfl,_⟩:=S.sl hi
 rfl
theorem iq{u:Value}{us:List Value}(h:u.oneCell'=true)(hs:ones us=true):ones (u::us)=true:=by
 simp[ones,h,hs]
def aQ:Cd Int:=⟨fun x=>[.int .i64 x],1,8,3,0,fun _=>rfl,by intro x u hu;simp at hu;subst hu;rfl⟩
def lF:Cd Bool:=⟨fun x=>[.bool x],1,1,4,false,fun _=>rfl,by intro x u hu;simp at hu;subst hu;rfl⟩
theorem int_eq{a b:Int}(h:a=b):Value.int .i64 a=.int .i64 b:=by rw[h]
structure ei where
 A:Option Addr
 n:Nat
 c:Nat
instance :Inhabited ei:=⟨⟨none,0,0⟩⟩
def eZ(E:TypeId):Cd ei:=⟨fun x=>[.slice x.A x.n x.c],1,24,E,⟨none,0,0⟩,fun _=>rfl,by intro x u hu;simp at hu;subst hu;rfl⟩
def ia{α:Type}(C:Cd α)(N:Hp)(vs:List ei)(xss:List (List α)):Prop:=
 vs.length=xss.length/\∀i,i<xss.length->(ga vs i).n=(ga xss i).length/\aJ C N (ga vs i).A (ga vs i).c (ga xss i)
section
variable {α : Type} {C : Cd α} {N N' : Hp} {vs : List ei} {xss : List (List α)}
theorem ia.mono(h:ia C N vs xss)(k:N.le N'):ia C N' vs xss:=⟨h.1,fun i hi=>⟨(h.2 i hi).1,(h.2 i hi).2.mono k⟩⟩
theorem ia.eO:ia C N [] ([]:List (List α)):=⟨rfl,fun i hi=>by simp at hi⟩
theorem ia.snoc(h:ia C N vs xss){A:Option Addr}{xs:List α}{c:Nat}(hx:aJ C N A c xs):ia C N (vs++[⟨A,xs.length,c⟩]) (xss++[xs]):=by
 refine⟨by simp[h.1],fun i hi=>?_⟩
 rw[List.length_append,List.length_singleton]at hi
 by_cases h1:i<xss.length
 ·rw[lS _ _ _ (by rw[h.1];exact h1),lS _ _ _ h1]
  exact h.2 i h1
 ·obtain rfl:i=xss.length:=by omega
  rw[nC _ _ _ (by rw[h.1];exact Nat.le_refl _),nC _ _ _ (Nat.le_refl _),h.1,Nat.sub_self]
  exact⟨rfl,hx⟩
end
end Go.Proofs.YtcohmplpgcddiaaGreatDoor
namespace Go.Proofs.YtcohmplpgcddiaaGreatDoor
section
variable {P : Program} {n : Nat} {C : Ctx} {c : Code} {s : List K} {L : List (Nat × Value)} {w : World} {Mb M : Hp} {X : Fr} {Hb H : List Rs} {l : Array Bool}
theorem akH(x y:Code){p:Prop}[Decidable p](hk:kind c=2)(hb:oev L (cX c)=some (.bool (decide p)))(hx:cL c=x)(hy:cR c=y)(ht:p->WS P n C x s L w)(hf:¬p->WS P n C y s L w):WS P n C c s L w:=zk x y hk hb hx hy (fun h=>ht (of_decide_eq_true h)) (fun h=>hf (of_decide_eq_false h))
theorem eN{k t:Nat}{p:Prop}[Decidable p](hl:lk L t=some (.bool (decide p)))(ht:p->WL P n C c k s ((t,.bool true)::L) w)(hf:¬p->WL P n C c k s ((t,.bool false)::L) w):WL P n C c k s L w:=uE hl (fun h=>ht (of_decide_eq_true h)) (fun h=>hf (of_decide_eq_false h))
theorem xG{f t:Nat}{p:Prop}[Decidable p](hl:lk L t=some (.bool (decide p)))(ht:p->WA P n C c s X f l ((t,.bool true)::L) Mb Hb M H)(hf:¬p->WA P n C c s X f l ((t,.bool false)::L) Mb Hb M H):WA P n C c s X f l L Mb Hb M H:=Ls hl (fun h=>ht (of_decide_eq_true h)) (fun h=>hf (of_decide_eq_false h))
def U6:BinOp->Int->Int->Option Value
 |.lss,a,b=>some (.bool (decide (a<b)))
 |.leq,a,b=>some (.bool (decide (a<=b)))
 |.gtr,a,b=>some (.bool (decide (b<a)))
 |.geq,a,b=>some (.bool (decide (b<=a)))
 |.eql,a,b=>some (.bool (decide (a=b)))
 |.neq,a,b=>some (.bool (decide (a≠b)))
 |_,_,_=>none
def Nh(L:List (Nat×Value)):Op->Option Value
 |.move x=>oev L x
 |.assign x=>oev L x
 |.nilCheck x=>match oev L x with
  |some (.pointer (some p))=>some (.pointer (some p))
  |_=>none
 |.unOp .not _ x=>match oev L x with
  |some (.bool p)=>some (.bool (!p))
  |_=>none
 |.extract x i=>match oev L x with
  |some (.tuple vs)=>nth vs.toList i
  |_=>none
 |.binOp q _ x y _=>match oev L x,oev L y with
  |some (.int .i64 a),some (.int .i64 b)=>U6 q a b
  |_,_=>none
 |.pick x a b=>match oev L x with
  |some (.bool true)=>oev L a
  |some (.bool false)=>oev L b
  |_=>none
 |_=>none
def stepG(c:Code)(n:Nat)(L:List (Nat×Value)):Option (Nat×Bool)->Option Bool
 |none=>some true
 |some (j,b)=>match op c j with
  |some o=>match o.dst with
   |some t=>match Nat.blt t n,lk L t with
    |true,some g=>some (isG g b)
    |_,_=>none
   |none=>none
  |none=>none
def CT(c:Code)(n k:Nat)(L:List (Nat×Value)):Option (List (Nat×Value)):=match op c k with
 |some o=>match o.dst with
  |some d=>match Nat.blt d n,stepG c n L o.guard with
   |true,some true=>match Nh L o.op with
    |some v=>some ((d,v)::L)
    |none=>none
   |true,some false=>some ((d,undef)::L)
   |_,_=>none
  |none=>none
 |none=>none
theorem Ek{o:Oper}{y:Bool}(h:stepG c n L o.guard=some y):Wanted c L o.guard y/\mJ c o n=true:=by
 unfold stepG at h
 unfold mJ
 cases hg:o.guard with
 |none=>rw[hg]at h;injection h with h;exact⟨h.symm,rfl⟩
 |some p=>
  obtain⟨j,b⟩:=p
  rw[hg]at h
  simp only at h ⊢
  cases ho:op c j with
  |none=>rw[ho]at h;cases h
  |some o2=>
   rw[ho]at h
   simp only at h ⊢
   cases hd:o2.dst with
   |none=>rw[hd]at h;cases h
   |some t=>
    rw[hd]at h
    simp only at h ⊢
    split at h
    ·rename_i g h1 h2
     injection h with h
     exact⟨⟨o2,t,g,ho,hd,h2,h⟩,h1⟩
    ·cases h
theorem Tw{o:Oper}{v:Value}(h:Nh L o.op=some v):Run P o L w v w:=by
 unfold Nh at h
 split at h
 ·rename_i x e;exact run_move e h
 ·rename_i x e;exact run_assign e h
 ·rename_i x e
  split at h
  ·rename_i p h1;cases h;exact KX e h1
  ·cases h
 ·rename_i x e
  split at h
  ·rename_i p h1;cases h;exact CG e h1
  ·cases h
 ·rename_i x i e
  split at h
  ·rename_i vs h1;exact BG (vs:=vs.toList) e (by simpa using h1) h
  ·cases h
 ·rename_i q t x y t' e
  split at h
  ·rename_i a b h1 h2
   unfold U6 at h
   split at h
   ·cases h;exact Um e h1 h2
   ·cases h;exact Un e h1 h2
   ·cases h;exact adl e h1 h2
   ·cases h;exact adn e h1 h2
   ·cases h;exact ado e h1 h2
   ·cases h;exact adi e h1 h2
   ·cases h
  ·cases h
 ·rename_i x a b e
  split at h
  ·rename_i h1;exact abl e h1 h
  ·rename_i h1;exact abm e h1 h
  ·cases h
 ·cases h
theorem ac9{k:Nat}{L2:List (Nat×Value)}(h:CT c n k L=some L2)(hw:WL P n C c k.succ s L2 w):WL P n C c k s L w:=by
 unfold CT at h
 split at h
 ·rename_i o ho
  split at h
  ·rename_i d hd
   split at h
   ·rename_i h1 h2
    obtain⟨g1,g2⟩:=Ek h2
    split at h
    ·rename_i v hv
     injection h with h
     subst h
     exact Ml ho rfl g1 g2 (bT hd h1 (Tw hv) hw)
    ·cases h
   ·rename_i h1 h2
    obtain⟨g1,g2⟩:=Ek h2
    injection h with h
    subst h
    exact VW ho rfl g1 hd (by simp[h1,g2]) hw
   ·cases h
  ·cases h
 ·cases h
def zz(c:Code)(k n:Nat)(L:List (Nat×Value)):Option (Oper×Nat):=match op c k with
 |some o=>match stepG c n L o.guard,o.dst with
  |some true,some d=>match Nat.blt d n with
   |true=>some (o,d)
   |false=>none
  |_,_=>none
 |none=>none
theorem Mu{k d:Nat}{o:Oper}(h:zz c k n L=some (o,d)):op c k=some o/\Wanted c L o.guard true/\o.dst=some d/\(Nat.blt d n&&mJ c o n)=true:=by
 unfold zz at h
 split at h
 ·rename_i o2 ho
  split at h
  ·rename_i d2 hg hd
   split at h
   ·rename_i hn
    simp only[Option.some.injEq,Prod.mk.injEq]at h
    obtain⟨rfl,rfl⟩:=h
    obtain⟨g1,g2⟩:=Ek hg
    exact⟨ho,g1,hd,by rw[hn,g2];rfl⟩
   ·cases h
  ·cases h
 ·cases h
theorem ZU(i f:Nat){d:Nat}{o:Oper}{v:Value}(hx:zz c i n L=some (o,d))(hb:(Region.noSelect (rg c)&&!yz (rg c) i&&Region.free .any (rg c) l i&&(Region.ready .any (rg c) l).contains i)=true)
  (hy:∀M2 N w,Mb.le M2->SH w M2 X (N++Hb)->(Run P o L w v w\/∃dP vs,(∀n a,Env n L a->(execOp a.eval o).run P w=.ok (.enter dP vs) w)/\Calls P dP vs w fun e w3=>e=.returned v/\SH w3 M2 X (N++Hb)))
  (h:WA P n C c s X f (l.setIfInBounds i true) ((d,v)::L) Mb Hb M H):WA P n C c s X (f+1) l L Mb Hb M H:=by
 obtain⟨h1,h2,h3,h4⟩:=Mu hx
 simp only[Bool.and_eq_true]at hb
 exact Ev f h1 (by rw[Bool.and_eq_true];exact⟨hb.1.1.1,hb.1.1.2⟩) hb.1.2 hb.2 h2 h3 h4 hy h
theorem wap(i f:Nat){d:Nat}{o:Oper}{v:Value}(hx:zz c i n L=some (o,d))(hb:(Region.noSelect (rg c)&&Region.free .any (rg c) l i&&(Region.ready .any (rg c) l).contains i)=true)(hy:∀w,Run P o L w v w)
  (h:WA P n C c s X f (l.setIfInBounds i true) ((d,v)::L) Mb Hb M H):WA P n C c s X (f+1) l L Mb Hb M H:=by
 obtain⟨h1,h2,h3,h4⟩:=Mu hx
 simp only[Bool.and_eq_true]at hb
 exact Ej f h1 hb.1.1 hb.1.2 hb.2 h2 h3 h4 hy h
def PX(c:Code)(k n:Nat):Option (Oper×Nat):=match op c k with
 |some o=>match o.guard,o.dst with
  |none,some d=>match Nat.blt d n with
   |true=>some (o,d)
   |false=>none
  |_,_=>none
 |none=>none
theorem wlr(k:Nat){o:Oper}{d:Nat}{v:Value}{w':World}(h:PX c k n=some (o,d))(hr:Run P o L w v w')(hw:WL P n C c k.succ s ((d,v)::L) w'):WL P n C c k s L w:=by
 unfold PX at h
 split at h
 ·rename_i o2 ho
  split at h
  ·rename_i d2 hg hd
   split at h
   ·rename_i hn
    simp only[Option.some.injEq,Prod.mk.injEq]at h
    obtain⟨rfl,rfl⟩:=h
    exact bG ho rfl hg (bT hd hn hr hw)
   ·cases h
  ·cases h
 ·cases h
def II(c:Code)(n:Nat):Nat->Nat->List (Nat×Value)->Option (List (Nat×Value))
 |0,_,L=>some L
 |j+1,k,L=>match CT c n k L with
  |some L1=>II c n j (k+1) L1
  |none=>none
theorem mvs(k j:Nat){k':Nat}{L2:List (Nat×Value)}(hk:k'=k+j)(h:II c n j k L=some L2)(hw:WL P n C c k' s L2 w):WL P n C c k s L w:=by
 subst hk
 induction j generalizing k L with
 |zero=>injection h with h;subst h;exact hw
 |succ j ih=>
  unfold II at h
  split at h
  ·rename_i L1 h1
   refine ac9 h1 (ih (k+1) h ?_)
   rw[show k+1+j=k+(j+1)from by omega]
   exact hw
  ·cases h
end
end Go.Proofs.YtcohmplpgcddiaaGreatDoor
namespace Go.Proofs.YtcohmplpgcddiaaGreatDoor
section
variable {P : Program} {n : Nat} {C : Ctx} {c d : Code} {s : List K} {L L2 : List (Nat × Value)} {w : World}
theorem cJ(h:WS P n C (cL c) (.thn (cR c)::s) L w)(hk:kind c=1:=by kernel_rfl):WS P n C c s L w:=IB hk h
theorem aH(h:WL P n C c 0 s L w)(hk:kind c=7:=by kernel_rfl):WS P n C c s L w:=fQ hk h
theorem ar(h:WL P n C (cL c) 0 (.thn (cR c)::s) L w)(hk:kind c=1:=by kernel_rfl)(hr:kind (cL c)=7:=by kernel_rfl):WS P n C c s L w:=IB hk (fQ hr h)
theorem aV(h:NM P n C s L w)(hk:kind c=9:=by kernel_rfl):WS P n C c s L w:=uD hk h
theorem bg(h:WS P n C (cL c) (.blk (u7 c)::s) L w)(hk:kind c=3:=by kernel_rfl):WS P n C c s L w:=Ti hk h
theorem di(h:WS P n C (cL c) (.thn (cR c)::s) L w)(hk:kind c=1:=by kernel_rfl):NM P n C (.thn c::s) L w:=bK (IB hk h)
theorem sw(h:WL P n C (cL c) 0 (.thn (cR c)::s) L w)(hk:kind c=1:=by kernel_rfl)(hr:kind (cL c)=7:=by kernel_rfl):NM P n C (.thn c::s) L w:=bK (ar h hk hr)
theorem ali(ks:List Nat)(hs:pY L ks=some L2)(h:NM P n C s L2 w):NM P n C s L w:=GR ks hs h
theorem aW(ks:List Nat)(hs:pY L ks=some L2)(h:WS P n C c s L2 w):NM P n C (.thn c::s) L w:=GR ks hs (bK h)
theorem bC(ks:List Nat)(hs:pY L ks=some L2)(h:WS P n C (cL c) (.thn (cR c)::s) L2 w)(hk:kind c=1:=by kernel_rfl):NM P n C (.thn c::s) L w:=GR ks hs (di h hk)
theorem cP(ks:List Nat)(hs:pY L ks=some L2)(h:WL P n C (cL c) 0 (.thn (cR c)::s) L2 w)(hk:kind c=1:=by kernel_rfl)(hr:kind (cL c)=7:=by kernel_rfl):NM P n C (.thn c::s) L w:=GR ks hs (sw h hk hr)
theorem aB{k:Nat}(h:NM P n C s L w)(hk:op c k=none:=by kernel_rfl):WL P n C c k s L w:=fq hk h
theorem alj{k:Nat}(ks:List Nat)(hs:pY L ks=some L2)(h:NM P n C s L2 w)(he:op c k=none:=by kernel_rfl):WL P n C c k s L w:=fq he (GR ks hs h)
theorem ax{k:Nat}(ks:List Nat)(hs:pY L ks=some L2)(h:WS P n C d s L2 w)(he:op c k=none:=by kernel_rfl):WL P n C c k (.thn d::s) L w:=fq he (aW ks hs h)
theorem bM{k:Nat}(ks:List Nat)(hs:pY L ks=some L2)(h:WS P n C (cL d) (.thn (cR d)::s) L2 w)(he:op c k=none:=by kernel_rfl)(hk:kind d=1:=by kernel_rfl):WL P n C c k (.thn d::s) L w:=fq he (bC ks hs h hk)
theorem bL{k:Nat}(ks:List Nat)(hs:pY L ks=some L2)(h:WL P n C (cL d) 0 (.thn (cR d)::s) L2 w)(he:op c k=none:=by kernel_rfl)(hk:kind d=1:=by kernel_rfl)(hr:kind (cL d)=7:=by kernel_rfl):WL P n C c k (.thn d::s) L w:=fq he (cP ks hs h hk hr)
theorem bX{s':List K}(hp:popTo (u7 c) s=some s')(h:NM P n C s' L w)(hk:kind c=5:=by kernel_rfl):WS P n C c s L w:=CD hk hp h
theorem gB{b:Bool}(hb:oev L (cX c)=some (.bool b))(ht:b=true->WS P n C (cL c) s L w)(hf:b=false->WS P n C (cR c) s L w)(hk:kind c=2:=by kernel_rfl):WS P n C c s L w:=Et hk hb ht hf
theorem bp{p:Prop}[Decidable p](hb:oev L (cX c)=some (.bool (decide p)))(ht:p->WS P n C (cL c) s L w)(hf:¬p->WS P n C (cR c) s L w)(hk:kind c=2:=by kernel_rfl):WS P n C c s L w:=Et hk hb (fun h=>ht (of_decide_eq_true h)) (fun h=>hf (of_decide_eq_false h))
theorem kP(h:WS P n C (cL c) s L w)(hk:kind c=2:=by kernel_rfl)(hb:oev L (cX c)=some (.bool true):=by kernel_rfl):WS P n C c s L w:=Tf hk hb h
theorem sD(h:WS P n C (cR c) s L w)(hk:kind c=2:=by kernel_rfl)(hb:oev L (cX c)=some (.bool false):=by kernel_rfl):WS P n C c s L w:=Tg hk hb h
theorem cy{a:Act}(ha:Env n L a)(h:WS P n C c s L w):c.wp P (post P C s) a w:=h a ha
def IA(L:List (Nat×Value)):List ResultVar->Option (List Value)
 |[]=>some []
 |.tmp t::r=>match lk L t,IA L r with
  |some v,some vs=>some (v::vs)
  |_,_=>none
 |_::_=>none
theorem R9:∀{rs:List ResultVar}{vs:List Value},IA L rs=some vs->wX P L w rs vs
 |[],_,h=>by cases h;exact trivial
 |.tmp t::r,vs,h=>by
  unfold IA at h
  split at h
  ·rename_i v us h1 h2
   cases h
   exact⟨h1,R9 h2⟩
  ·cases h
 |.cell _ _::_,_,h=>by cases h
theorem bU{fn:Func}{R:Ending->World->Prop}(hC:C=⟨fn,R⟩){vs:List Value}(h:IA L fn.results.toList=some vs)(hR:R (.returned (tup vs)) w)(hk:kind c=6:=by kernel_rfl):WS P n C c s L w:=
 dI hC (rs:=fn.results.toList) vs (by simp) hk (R9 h) hR
-- runs of steps
theorem af{k:Nat}(j:Nat)(h:II c n j k L=some L2)(hw:WL P n C c (k+j) s L2 w):WL P n C c k s L w:=mvs k j rfl h hw
def Jd(c:Code)(k:Nat):Option Oper:=match op c k with
 |some o=>match o.guard with
  |none=>some o
  |some _=>none
 |none=>none
theorem Lr{k:Nat}{o:Oper}(h:Jd c k=some o):op c k=some o/\o.guard=none:=by
 unfold Jd at h
 split at h
 ·rename_i o2 h1
  split at h
  ·rename_i h2
   cases h
   exact⟨h1,h2⟩
  ·cases h
 ·cases h
theorem aj{k:Nat}{o:Oper}(ho:Jd c k=some o)(h:WO P n o L w (fun L' w'=>WL P n C c k.succ s L' w')):WL P n C c k s L w:=bG (Lr ho).1 rfl (Lr ho).2 h
theorem ag{k:Nat}{o:Oper}{t:Nat}{v:Value}{w':World}(h:PX c k n=some (o,t))(hr:Run P o L w v w')(hw:WL P n C c k.succ s ((t,v)::L) w'):WL P n C c k s L w:=wlr k h hr hw
theorem b8{k:Nat}{o:Oper}{t:Nat}{v:Value}{w':World}(h:zz c k n L=some (o,t))(hr:Run P o L w v w')(hw:WL P n C c k.succ s ((t,v)::L) w'):WL P n C c k s L w:=by
 obtain⟨h1,h2,h3,h4⟩:=Mu h
 simp only[Bool.and_eq_true]at h4
 exact Ml h1 rfl h2 h4.2 (bT h3 h4.1 hr hw)
end
section
variable {P : Program} {n : Nat} {C : Ctx} {c : Code} {s : List K} {L L2 : List (Nat × Value)} {w : World} {Mb M : Hp} {X : Fr} {Hb H : List Rs} {l : Array Bool} {f : Nat}
theorem dH(S:SH w M X H)(f:Nat)(h:WA P n C c s X f (Array.replicate f false) L M H M H)(hk:kind c=8:=by kernel_rfl)(hm:P.follows .mixedOrders=true:=by kernel_rfl)(hf:(rg c).size=f:=by kernel_rfl):WS P n C c s L w:=LI hk hm S f hf h
theorem cD(h:∀w,SH w M X H->NM P n C s L w)(hr:Region.ready .any (rg c) l=[]:=by kernel_rfl):WA P n C c s X f l L Mb Hb M H:=EE hr h
theorem dQ(i:Nat){d:Nat}{o:Oper}{v:Value}(hx:zz c i n L=some (o,d))
  (hy:∀{M2 N w},Mb.le M2->SH w M2 X (N++Hb)->(Run P o L w v w\/∃dP vs,(∀n a,Env n L a->(execOp a.eval o).run P w=.ok (.enter dP vs) w)/\Calls P dP vs w fun e w3=>e=.returned v/\SH w3 M2 X (N++Hb)))
  (h:WA P n C c s X f (l.setIfInBounds i true) ((d,v)::L) Mb Hb M H)(hb:(Region.noSelect (rg c)&&!yz (rg c) i&&Region.free .any (rg c) l i&&(Region.ready .any (rg c) l).contains i)=true:=by kernel_rfl):WA P n C c s X (f+1) l L Mb Hb M H:=
 ZU i f hx hb (fun _ _ _ a b=>hy a b) h
theorem ay(i:Nat){d:Nat}{o:Oper}{v:Value}(hx:zz c i n L=some (o,d))(hy:∀{M2 N w},Mb.le M2->SH w M2 X (N++Hb)->Run P o L w v w)
  (h:WA P n C c s X f (l.setIfInBounds i true) ((d,v)::L) Mb Hb M H)(hb:(Region.noSelect (rg c)&&!yz (rg c) i&&Region.free .any (rg c) l i&&(Region.ready .any (rg c) l).contains i)=true:=by kernel_rfl):WA P n C c s X (f+1) l L Mb Hb M H:=
 ZU i f hx hb (fun _ _ _ a b=>.inl (hy a b)) h
theorem aS(i:Nat){d:Nat}{o:Oper}{v:Value}(hx:zz c i n L=some (o,d))(hy:∀{w},Run P o L w v w)
  (h:WA P n C c s X f (l.setIfInBounds i true) ((d,v)::L) Mb Hb M H)(hb:(Region.noSelect (rg c)&&Region.free .any (rg c) l i&&(Region.ready .any (rg c) l).contains i)=true:=by kernel_rfl):WA P n C c s X (f+1) l L Mb Hb M H:=
 wap i f hx hb (fun _=>hy) h
theorem cm(i:Nat){o:Oper}(ho:Jd c i=some o)(h:∀w,SH w M X H->WO P n o L w (lC P n C c s X f l i Mb Hb))(hr:Region.ready .any (rg c) l=[i]:=by kernel_rfl):WA P n C c s X (f+1) l L Mb Hb M H:=by
 obtain⟨h1,h2⟩:=Lr ho
 exact Ij f h1 hr (by rw[h2];rfl) (by unfold mJ;rw[h2]) h
theorem dB{j:Nat}{L':List (Nat×Value)}{w':World}(N Ho:List Rs)(hH:N++Hb=Ho)(S:SH w' Mb X Ho)(h:WA P n C c s X f (l.setIfInBounds j true) L' Mb Hb Mb Ho):lC P n C c s X f l j Mb Hb L' w':=by
 subst hH
 exact lC.grow N (Hp.le_refl _) S h
theorem ij{j:Nat}{L':List (Nat×Value)}{w':World}{M2:Hp}{H2:List Rs}(S:SH w' M2 X H2)(h:WA P n C c s X f (l.setIfInBounds j true) L' M2 H2 M2 H2)(hc:wV .any (rg c) l j=true:=by kernel_rfl):lC P n C c s X f l j Mb Hb L' w':=lC.turn hc S h
theorem aaj{k:Nat}(h:CT c n k L=some L2):∃o d,op c k=some o/\o.dst=some d/\(Nat.blt d n&&mJ c o n)=true/\((Wanted c L o.guard true/\∃v,L2=(d,v)::L/\∀P w,Run P o L w v w)\/(Wanted c L o.guard false/\L2=(d,undef)::L)):=by
 unfold CT at h
 split at h
 ·rename_i o ho
  split at h
  ·rename_i d hd
   split at h
   ·rename_i h1 h2
    obtain⟨g1,g2⟩:=Ek h2
    split at h
    ·rename_i v hv
     injection h with h
     subst h
     exact⟨o,d,ho,hd,by rw[h1,g2];rfl,.inl ⟨g1,v,rfl,fun P w=>Tw hv⟩⟩
    ·cases h
   ·rename_i h1 h2
    obtain⟨g1,g2⟩:=Ek h2
    injection h with h
    subst h
    exact⟨o,d,ho,hd,by rw[h1,g2];rfl,.inr ⟨g1,rfl⟩⟩
   ·cases h
  ·cases h
 ·cases h
def Mh(c:Code)(n:Nat):List Nat->List (Nat×Value)->Option (List (Nat×Value))
 |[],L=>some L
 |i::r,L=>match CT c n i L with
  |some L1=>Mh c n r L1
  |none=>none
def Mi(c:Code):List Nat->Array Bool->Bool
 |[],_=>true
 |i::r,l=>Region.noSelect (rg c)&&Region.free .any (rg c) l i&&(Region.ready .any (rg c) l).contains i&&Mi c r (l.setIfInBounds i true)
def U5:List Nat->Array Bool->Array Bool
 |[],l=>l
 |i::r,l=>U5 r (l.setIfInBounds i true)
theorem aK(f:Nat)(is:List Nat){f':Nat}(h:Mh c n is L=some L2)(hw:WA P n C c s X f (U5 is l) L2 Mb Hb M H)(hb:(Nat.beq f' (f+is.length)&&Mi c is l)=true:=by kernel_rfl):WA P n C c s X f' l L Mb Hb M H:=by
 rw[Bool.and_eq_true]at hb
 obtain⟨he,hb⟩:=hb
 obtain rfl:=Nat.eq_of_beq_eq_true he
 clear he
 induction is generalizing l L with
 |nil=>cases h;exact hw
 |cons i r ih=>
  unfold Mh at h
  split at h
  ·rename_i L1 h1
   unfold Mi at hb
   simp only[Bool.and_eq_true]at hb
   obtain⟨⟨⟨b1,b2⟩,b3⟩,b4⟩:=hb
   have k:=ih h hw b4
   obtain⟨o,d,ho,hd,hn,⟨hg,v,rfl,hr⟩|⟨hg,rfl⟩⟩:=aaj h1
   ·exact Ej (f+r.length) ho b1 b2 b3 hg hd hn (hr P) k
   ·exact af0 (f+r.length) ho b1 b2 b3 hg hd hn k
  ·cases h
end
section
variable {P : Program} {n : Nat} {C : Ctx} {c : Code} {s : List K} {L L2 : List (Nat × Value)} {w : World} {M : Hp} {X : Fr} {H : List Rs} {o : Oper} {T T' : TypeId} {a b : Int} {v : Value}
def Mj(o:Oper)(L:List (Nat×Value)):Option (BinOp×Int×Int):=match o.op with
 |.binOp q _ x y _=>match oev L x,oev L y with
  |some (.int .i64 a),some (.int .i64 b)=>some (q,a,b)
  |_,_=>none
 |_=>none
theorem abd{q:BinOp}(h:Mj o L=some (q,a,b)):∃t x y t',o.op=.binOp q t x y t'/\oev L x=some (.int .i64 a)/\oev L y=some (.int .i64 b):=by
 unfold Mj at h
 split at h
 ·rename_i q t x y t' h1
  split at h
  ·rename_i a b h2 h3
   cases h
   exact⟨t,x,y,t',h1,h2,h3⟩
  ·cases h
 ·cases h
theorem bj(h:Mj o L=some (.add,a,b))(hb:-9223372036854775808<=a+b/\a+b<=9223372036854775807:=by first|omega|(simp only[ls];omega)):Run P o L w (.int .i64 (a+b)) w:=by
 obtain⟨_,_,_,_,h1,h2,h3⟩:=abd h
 exact Il h1 h2 h3 hb
def Jf(o:Oper)(L:List (Nat×Value)):Option (TypeId×Addr):=match o.op with
 |.load T x=>match oev L x with
  |some (.pointer (some p))=>some (T,p)
  |_=>none
 |_=>none
theorem Td{p:Addr}(h:Jf o L=some (T,p)):∃x,o.op=.load T x/\oev L x=some (.pointer (some p)):=by
 unfold Jf at h
 split at h
 ·rename_i T x h1
  split at h
  ·rename_i p h2
   cases h
   exact⟨x,h1,h2⟩
  ·cases h
 ·cases h
theorem aw{p:Addr}{dd:TypeDesc}(h:Jf o L=some (T,p))(hu:P.underlying T=some dd)(hc:w.cell? p=some v)(hd:ud dd=true:=by kernel_rfl):Run P o L w v w:=by
 obtain⟨x,h1,h2⟩:=Td h
 exact sV h1 h2 hu hd hc
theorem aU(us:List Value){blk off:Nat}{dd:TypeDesc}(h:Jf o L=some (T,⟨blk,off,none⟩))(hu:P.underlying T=some dd)(hk:(P.info? T).map (·.size)=some us.length)(hc:∀j u,us[j]? =some u->w.cell? ⟨blk,off+j,none⟩=some u)(hd:ud dd=false:=by kernel_rfl):Run P o L w (.agg us.toArray) w:=by
 obtain⟨x,h1,h2⟩:=Td h
 exact uG h1 h2 hu hd hk hc
def VR(o:Oper)(L:List (Nat×Value)):Option (TypeId×Nat×Nat×Nat):=match o.op with
 |.fieldAddr T x f=>match oev L x with
  |some (.pointer (some ⟨b,off,none⟩))=>some (T,f,b,off)
  |_=>none
 |_=>none
theorem az{f bl off:Nat}{fs:Array Field}{fd:Field}(h:VR o L=some (T,f,bl,off))(hu:P.underlying T=some (.struct fs))(hf:fs[f]? =some fd)(hz:Nat.blt 0 (P.cellsOf fd.type)=true)(hi:∃i,P.info? fd.type=some i):Run P o L w (.pointer (some ⟨bl,off+fd.offset,none⟩)) w:=by
 unfold VR at h
 split at h
 ·rename_i T x f h1
  split at h
  ·rename_i b off h2
   cases h
   exact GF h1 h2 hu hf hz hi
  ·cases h
 ·cases h
def Jg(o:Oper)(L:List (Nat×Value)):Option (TypeId×Value×Int):=match o.op with
 |.indexAddr T x y=>match oev L x,oev L y with
  |some v,some (.int .i64 a)=>some (T,v,a)
  |_,_=>none
 |_=>none
theorem Te(h:Jg o L=some (T,v,a)):∃x y,o.op=.indexAddr T x y/\oev L x=some v/\oev L y=some (.int .i64 a):=by
 unfold Jg at h
 split at h
 ·rename_i T x y h1
  split at h
  ·rename_i v a h2 h3
   cases h
   exact⟨x,y,h1,h2,h3⟩
  ·cases h
 ·cases h
theorem bS{α:Type}{D:Cd α}{i:Nat}{xs:List α}(e:Nat)(h:Jg o L=some (T,v,a))(hT:jt P T D)(S:SH w M X H)(hi:nth H i=some (Rs.row D v xs))(ha:a=(e:Int):=by first|rfl|omega)(he:e<xs.length:=by first|omega|(simp only[ls];omega)):Run P o L w (.pointer (some ⟨rb v,e*D.k,none⟩)) w:=by
 obtain⟨x,y,h1,h2,h3⟩:=Te h
 exact aaQ e h1 h2 h3 hT S hi ha he
theorem cN{α:Type}{D:Cd α}{N:Hp}{A:Option Addr}{q:Nat}{xs:List α}(e:Nat)(h:Jg o L=some (T,.slice A xs.length q,a))(hT:jt P T D)(hr:aJ D N A q xs)(ha:a=(e:Int):=by first|rfl|omega)(he:e<xs.length:=by first|omega|(simp only[ls];omega)):Run P o L w (.pointer (some ⟨adB A,qP A+e*D.k,none⟩)) w:=by
 obtain⟨x,y,h1,h2,h3⟩:=Te h
 exact aaR e h1 h2 h3 hT ha hr he
def M0(o:Oper)(L:List (Nat×Value)):Option (TypeId×Nat×Nat×Value):=match o.op,o.dst with
 |.store T x y,none=>match oev L x,oev L y with
  |some (.pointer (some ⟨b,off,none⟩)),some v=>some (T,b,off,v)
  |_,_=>none
 |_,_=>none
theorem abU{g off:Nat}(h:M0 o L=some (T,g,off,v)):∃x y,o.op=.store T x y/\o.dst=none/\oev L x=some (.pointer (some ⟨g,off,none⟩))/\oev L y=some v:=by
 unfold M0 at h
 split at h
 ·rename_i T x y h1 hd
  split at h
  ·rename_i b off v h2 h3
   cases h
   exact⟨x,y,h1,hd,h2,h3⟩
  ·cases h
 ·cases h
theorem bH(i:Nat)(us l':List Value)(H':List Rs){g off:Nat}{l:List Value}{E:TypeId}{Kt:List (Nat×Value)->World->Prop}(h:M0 o L=some (T,g,off,v))(S:SH w M X H)(hi:nth H i=some (Rs.box g E l))(hl:v.cells.toList=us)(hk:(P.info? T).map (·.size)=some us.length)
  (hl':spl l off us=l')(hH:H.set i (Rs.box g E l')=H')(hw:∀w',SH w' M X H'->Kt L w')(hfit:Nat.ble (off+us.length) l.length=true:=by kernel_rfl)(h1:ones us=true:=by kernel_rfl):WO P n o L w Kt:=by
 obtain⟨x,y,a1,a2,a3,a4⟩:=abU h
 exact gJ a1 a2 S hi a3 a4 hl hk hfit h1 hl' hH hw
def Je(o:Oper)(L:List (Nat×Value)):Option (TypeId×Value):=match o.op with
 |.call ca=>match ca.callee,ca.args.toList,ca.argTypes.toList with
  |.builtin .len,[x],t::_=>match oev L x with
   |some v=>some (t,v)
   |none=>none
  |_,_,_=>none
 |_=>none
theorem Tc{t:TypeId}(h:Je o L=some (t,v)):∃ca xs ts,o.op=.call ca/\ca.callee=.builtin .len/\ca.args=List.toArray xs/\ca.argTypes=List.toArray ts/\oevs L xs=some [v]/\nth ts 0=some t:=by
 unfold Je at h
 split at h
 ·rename_i ca h1
  split at h
  ·rename_i x t ts h2 h3 h4
   split at h
   ·rename_i u h5
    cases h
    refine⟨ca,[x],t::ts,h1,h2,by rw[<-h3],by rw[<-h4],?_,rfl⟩
    simp only[oevs,h5]
   ·cases h
  ·cases h
 ·cases h
theorem cK{t e:TypeId}{A:Option Addr}{m cp:Nat}(h:Je o L=some (t,.slice A m cp))(hu:P.underlying t=some (.slice e)):Run P o L w (.int .i64 (m:Int)) w:=by
 obtain⟨ca,xs,ts,h1,h2,h3,h4,h5,h6⟩:=Tc h
 exact Uo h1 h2 h3 h4 h5 h6 hu
theorem kZ{α:Type}{D:Cd α}{i:Nat}{xs:List α}{t:TypeId}(h:Je o L=some (t,v))(hT:jt P t D)(S:SH w M X H)(hi:nth H i=some (Rs.row D v xs)):Run P o L w (.int .i64 (xs.length:Int)) w:=by
 obtain⟨ca,xs,ts,h1,h2,h3,h4,h5,h6⟩:=Tc h
 exact acn h1 h2 h3 h4 h5 h6 hT S hi
def Jc(l:List Value):Nat->Nat->Option (List Value)
 |_,0=>some []
 |o,k+1=>match nth l o,Jc l (o+1) k with
  |some u,some us=>some (u::us)
  |_,_=>none
theorem Tb{l:List Value}:∀{k o:Nat}{us:List Value},Jc l o k=some us->piece l o us
 |0,o,us,h=>by cases h;exact trivial
 |k+1,o,us,h=>by
  unfold Jc at h
  split at h
  ·rename_i u vs h1 h2
   cases h
   exact⟨h1,Tb h2⟩
  ·cases h
theorem SH.bc(S:SH w M X H)(i:Nat){g:Nat}{T:TypeId}{l:List Value}(hi:nth H i=some (Rs.box g T l)){o:Nat}{u:Value}(hu:nth l o=some u):w.cell? ⟨g,o,none⟩=some u:=S.nJ hi hu
theorem SH.bs(S:SH w M X H)(i:Nat){g off:Nat}{T:TypeId}{l us:List Value}(hi:nth H i=some (Rs.box g T l))(hp:Jc l off us.length=some us):∀j u,us[j]? =some u->w.cell? ⟨g,off+j,none⟩=some u:=S.ql hi (Tb hp)
theorem Env.su{a:Act}(h:Env n L a)(hs:pY L (L2.map (·.1))=some L2):Env n L2 a:=h.sub (Ew hs)
theorem cB(ks:List Nat)(hs:pY L ks=some L2)(h:WS P n C c s L2 w):WS P n C c s L w:=yx L2 (Ew hs) h
theorem gA{k:Nat}(ks:List Nat)(hs:pY L ks=some L2)(h:WL P n C c k s L2 w):WL P n C c k s L w:=aey L2 (Ew hs) h
end
end Go.Proofs.YtcohmplpgcddiaaGreatDoor
namespace Go.Proofs.YtcohmplpgcddiaaGreatDoor
open Go.ChangeShapes Go.WideShapes Go.ChangeAt Go.RowKit
theorem aam{H:Type}{enc:TypeId×Value->H}{P:Program}(hl:laidOutB P=true){W W':World}(hb:Below W.heap.size W W'):
  ∀(ts:List TypeId) (vs:List Value) (ds:List (DataW H)) (ps:List MemPlace),(∀t∈ts,P.readableRec t=true/\t<P.types.size)->
   DataW.TrodAll enc P W 0 (fun _=>true) true ts vs ds ps->(∀x∈ps,x.block<W.heap.size)->
   DataW.TrodAll enc P W' 0 (fun b=>decide (b<W.heap.size)) true ts vs ds ps:=by
 intro ts
 induction ts with
 |nil=>intro vs ds ps _ h _;cases vs<;>cases ds<;>exact h
 |cons t ts ih=>
  intro vs ds ps ht h hlt
  cases vs with
  |nil=>exact h.elim
  |cons v vs=>
   cases ds with
   |nil=>exact h.elim
   |cons d ds=>
    obtain⟨p,q,h1,h2,rfl⟩:=h
    have ht0:=ht t (by simp)
    exact⟨p,q,Below.trod hl ht0.1 ht0.2 h1 hb (fun x hx=>hlt x (by simp[hx])),
     ih vs ds q (fun t' ht'=>ht t' (by simp[ht'])) h2 (fun x hx=>hlt x (by simp[hx])),rfl⟩
theorem KW{H:Type}{enc:TypeId×Value->H}{P:Program}{W:World}{base:Nat}{spare:Nat->Bool}{held:Bool}:
  ∀(ts:List TypeId) (vs:List Value) (ds:List (DataW H)) (ps:List MemPlace),DataW.TrodAll enc P W base spare held ts vs ds ps->ds.length=ts.length:=by
 intro ts
 induction ts with
 |nil=>intro vs ds ps h;cases vs<;>cases ds<;>first|rfl|exact h.elim
 |cons t ts ih=>
  intro vs ds ps h
  cases vs with
  |nil=>exact h.elim
  |cons v vs=>
   cases ds with
   |nil=>exact h.elim
   |cons d ds=>
    obtain⟨p,q,_,h2,rfl⟩:=h
    simp[ih vs ds q h2]
end Go.Proofs.YtcohmplpgcddiaaGreatDoor
namespace Go.Proofs.YtcohmplpgcddiaaGreatDoor
open Go.ChangeShapes Go.WideShapes Go.ChangeAt Go.RowKit
section
variable {P : Program} {o : Oper} {L : List (Nat × Value)} {w w' : World} {x y z : Operand} {t t' T E : TypeId} {a b : Int} {v u : Value} {n d : Nat} {M M' : Hp} {X : Fr} {H H' : List Rs} {i g off : Nat} {l : List Value}
theorem cu{P:Program}{f:FuncId}{fn:Func}{c:Code}(hf:P.funcs[f]? =some fn)(hname:(fn.name== "runtime.NumGoroutine")=false)(hb:fn.body=some c)(args:Array Value)(w:World):(callFunc f args).run P w=.ok (.enter f args) w:=by
 have h1:fn.name≠ "runtime.NumGoroutine":=by simpa using hname
 simp[callFunc,hf,h1,hb]
def plOk(k:Nat):Nat->List (Nat×Nat)->Bool
 |_,[]=>true
 |i,(p,q)::r=>Nat.beq p (i*k)&&Nat.beq q k&&plOk k (i+1) r
theorem Le{k:Nat}:∀{pl:List (Nat×Nat)}{j:Nat},plOk k j pl=true->∀i p,nth pl i=some p->p=((j+i)*k,k)
 |[],_,_,i,p,h=>by simp[nth]at h
 |(a,b)::r,j,hp,0,p,h=>by
  simp only[plOk,Bool.and_eq_true]at hp
  simp only[nth,Option.some.injEq]at h
  rw[<-h,Nat.eq_of_beq_eq_true hp.1.1,Nat.eq_of_beq_eq_true hp.1.2,Nat.add_zero]
 |(a,b)::r,j,hp,i+1,p,h=>by
  simp only[plOk,Bool.and_eq_true]at hp
  simp only[nth]at h
  rw[Le hp.2 i p h,show j+1+i=j+(i+1) by omega]
theorem LF{pl:List (Nat×Nat)}{place:Nat->Option (Nat×Nat)}(hpl:∀i p,nth pl i=some p->place i=some p):∀(ps:List (Nat×Value)) (cs:Array Value) (out:List Value),fillL pl cs.toList ps=some out->Instr.fill place cs ps=some out.toArray
 |[],cs,out,h=>by
  simp only[fillL,Option.some.injEq]at h
  subst h
  simp[Instr.fill]
 |(i,v)::r,cs,out,h=>by
  unfold fillL at h
  unfold Instr.fill
  split at h
  ·cases h
  ·rename_i p hp
   simp only[hpl i p hp]
   split at h
   ·rename_i hc
    simp only[Bool.and_eq_true]at hc
    have h1:v.cells.size=p.2:=by have:=Nat.eq_of_beq_eq_true hc.1;simpa using this
    have h2:p.1+p.2<=cs.size:=by have:=Nat.le_of_ble_eq_true hc.2;simpa using this
    obtain⟨po,ps⟩:=p
    simp only at h1 h2 h ⊢
    rw[if_neg (by simp[h1];omega)]
    refine LF hpl r _ out ?_
    rw[<-Array.foldl_toList,Array.toList_zipIdx,foldl_set,Nat.add_zero]
    exact h
   ·cases h
theorem vL{pl:List (Nat×Nat)}{zl:List Value}{ps:List (Nat×Operand)}{vs:List (Nat×Value)}{pa:Array (Nat×Operand)}{len k:Nat}(hop:o.op=.build T pa)(ye:pa=ps.toArray)(hu:P.underlying T=some (.array len E))(hz:(P.info? T).map (·.zero)=some (some (.agg zl.toArray)))
  (hk:(P.info? E).map (·.size)=some k)(hpl:plOk k 0 pl=true)(hps:partL L ps=some vs)(hl:fillL pl zl vs=some l):Run P o L w (.agg l.toArray) w:=by
 intro n c he
 subst ye
 unfold execOp
 have e:=H7 he hps
 have hf:=LF (pl:=pl) (place:=fun i=>some (i*k,k)) (fun i p hp=>by rw[Le hpl i p hp,Nat.zero_add]) vs zl.toArray l (by simpa using hl)
 simp only[hop,Instr.build,Em hz,run_underlying hu,run_sizeOf hk,Sem.run_bind,Sem.run_pure,Result.andThen_ok,List.map_toArray,e]
 rw[show Value.cells (.agg zl.toArray)=zl.toArray from rfl,hf]
 rfl
theorem ae0(xs:List Int)(e:Nat)(h:e<xs.length):nth (xs.map (Value.int .i64)) e=some (.int .i64 (ga xs e)):=by
 rw[ig,List.getElem?_map,UO h];rfl
theorem DK{cs:List Value}{e len:Nat}{dd:TypeDesc}(hop:o.op=.index T x y)(hx:oev L x=some (.agg cs.toArray))(hy:oev L y=some (.int .i64 a))(hu:P.underlying T=some (.array len E))(hE:P.underlying E=some dd)(hf:ud dd=true)(hk:(P.info? E).map (·.size)=some 1)
  (ha:a=(e:Int))(he:e<len)(hv:nth cs e=some v):Run P o L w v w:=by
 intro n c hc
 unfold execOp
 rw[ig]at hv
 have hv':cs.toArray[e]? =some v:=by simpa using hv
 have h1:(0:Int)<=(e:Int)/\(e:Int)<(len:Int):=by omega
 simp only[hop,hc.eval hx,hc.eval hy,Instr.index,asIntOf,Sem.run_bind,Sem.run_pure,Result.andThen_ok,run_underlying hu,ha,h1,and_self,if_true,run_sizeOf hk,Int.toNat_natCast,part,DG hE,hf,Bool.not_true,Bool.false_eq_true,if_false,Nat.mul_one,hv']
theorem xI{bo:Nat}{e k len:Nat}(hop:o.op=.indexAddr T x y)(hx:oev L x=some (.pointer (some ⟨g,bo,none⟩)))(hy:oev L y=some (.int .i64 a))(hu:P.underlying T=some (.array len E))(hk:(P.info? E).map (·.size)=some k)
  (ha:a=(e:Int))(he:e<len):Run P o L w (.pointer (some ⟨g,bo+e*k,none⟩)) w:=by
 intro n c he'
 unfold execOp
 have h1:(0:Int)<=(e:Int)/\(e:Int)<(len:Int):=by omega
 simp only[hop,he'.eval hx,he'.eval hy,Instr.indexAt,asIntOf,Instr.sureAddr,Sem.run_bind,Sem.run_pure,Result.andThen_ok,run_underlying hu,ha,h1,and_self,if_true,run_sizeOf hk,Int.toNat_natCast,LG]
end
def X0(W:World):Fr:=⟨fun _=>none,W⟩
theorem SH.start(W:World):SH W (hp W) (X0 W) []:=
 ⟨Hp.le_refl _,(fun b o e=>by cases e),(fun b o e=>by cases e),(fun s hs=>by cases hs),(fun s hs=>by cases hs),(fun i j r s _ hr=>by simp at hr),ku.refl W⟩
theorem SH.below{W w:World}{M:Hp}(h:(hp W).le M)(S:SH w M (X0 W) []):Below W.heap.size W w:=by
 refine⟨S.like.os,S.like.tape,S.like.output,S.like.size,fun k hk=>?_⟩
 have e:hp W k=some W.heap[k]:=Array.getElem?_eq_getElem hk
 have:=S.m k _ (h k _ e)
 unfold hp at this e
 rw[this,e]
theorem abB{P:Program}{f:FuncId}{vs:List Value}{W:World}(h:Ct P f vs W (hp W) (X0 W) (fun u _=>u=.bool true)):Calls P f vs.toArray W fun e W'=>e=.returned (.bool true)/\Below W.heap.size W W':=by
 refine h.mono ?_
 rintro e w' ⟨u,rfl,M',hle,S,rfl⟩
 exact⟨rfl,S.below hle⟩
end Go.Proofs.YtcohmplpgcddiaaGreatDoor
namespace Go.Proofs.YtcohmplpgcddiaaGreatDoor
open Go.ChangeShapes Go.WideShapes Go.ChangeAt Go.RowKit
def Kp(w w':World):Prop:=Below w.heap.size w w'
theorem Kp.refl(w:World):Kp w w:=Below.refl _ _
theorem Kp.trans{a b c:World}(h:Kp a b)(k:Kp b c):Kp a c:=Below.trans h (Below.mono k (Below.size h))
theorem Kp.size{a b:World}(h:Kp a b):a.heap.size<=b.heap.size:=Below.size h
theorem Kp.below{a b:World}(h:Kp a b):Below a.heap.size a b:=h
theorem below_drewN{B:Nat}{a w:World}(h:Below B a w)(n:Nat):Below B a (w.drewN n):=h.trans ⟨rfl,rfl,rfl,Nat.le_refl _,fun _ _=>rfl⟩
theorem Kp.drewN{a w:World}(h:Kp a w)(n:Nat):Kp a (w.drewN n):=below_drewN h n
theorem Kp.drew{a w:World}(h:Kp a w):Kp a w.drew:=Below.drew h
theorem Kp.alloc{a w:World}(h:Kp a w)(o:Obj):Kp a (w.alloc o):=Below.alloc h (Below.size h) o
theorem Kp.setCell{a w:World}(h:Kp a w){p:Addr}(hp:a.heap.size<=p.block)(u:Value):Kp a (w.setCell p u):=Below.setCell h hp u
theorem Kp.grown{a w w':World}{row:Option Nat}(h:Kp a w)(hg:w.grownBy w' row)(hr:∀k,row=some k->a.heap.size<=k):Kp a w':=Below.grown h hg (Below.size h) hr
def Sl(w:World)(B k u8:Nat)(A:Option Addr)(n:Nat)(xs:List Value):Prop:=
 xs.length=n*k/\n*u8<=140737488355328/\(0<n->∃b off,A=some ⟨b,off,none⟩/\b<B/\∀j u,xs[j]? =some u->w.cell? ⟨b,off+j,none⟩=some u)
section
variable {w w' : World} {B B' k u8 n : Nat} {A : Option Addr} {xs : List Value}
theorem Sl.len(h:Sl w B k u8 A n xs):xs.length=n*k:=h.1
theorem Sl.eO:Sl w B k u8 A 0 []:=⟨by simp,by simp,fun h=>absurd h (by omega)⟩
theorem Sl.at_(h:Sl w B k u8 A n xs)(hn:0<n):∃b off,A=some ⟨b,off,none⟩/\b<B/\∀j u,xs[j]? =some u->w.cell? ⟨b,off+j,none⟩=some u:=h.2.2 hn
theorem Sl.keep(h:Sl w B k u8 A n xs)(hk:∀p:Addr,p.block<B->w'.cell? p=w.cell? p):Sl w' B k u8 A n xs:=
 ⟨h.1,h.2.1,fun hn=>by
  obtain⟨b,off,e,hb,hc⟩:=h.2.2 hn
  exact⟨b,off,e,hb,fun j u hu=>(hk _ hb).trans (hc j u hu)⟩⟩
theorem Sl.mono(h:Sl w B k u8 A n xs)(hB:B<=B'):Sl w B' k u8 A n xs:=
 ⟨h.1,h.2.1,fun hn=>by
  obtain⟨b,off,e,hb,hc⟩:=h.2.2 hn
  exact⟨b,off,e,by omega,hc⟩⟩
theorem Sl.below(h:Sl w B k u8 A n xs)(hb:Below B w w'):Sl w' B k u8 A n xs:=h.keep fun _ hp=>hb.cell hp
theorem Sl.Mw{base:Nat}{e:TypeId}{c:Nat}(h:w.ownsRow base e k (.slice A n c) n xs)(hr:n*u8<=140737488355328):Sl w w.heap.size k u8 A n xs:=by
 refine⟨h.1,hr,fun hn=>?_⟩
 rcases h.2 with⟨_,h0⟩|⟨g,cap,cur,hv,_,hh,_⟩
 ·omega
 ·injection hv with hA
  subst hA
  have hlt:=(h.lt g rfl).2
  refine⟨g,0,rfl,hlt,fun j u hu=>?_⟩
  have:=h.cells (g:=g) rfl j u hu
  rwa [Addr.add_lit]at this
end
def gi(xs:List Int)(i:Nat):Int:=xs.getD i 0
theorem NR{xs:List Int}{i:Nat}(h:i<xs.length):gi xs i=xs[i]:=by simp[gi,h]
theorem L3{xs:List Int}{i:Nat}(h:i<xs.length):xs[i]? =some (gi xs i):=by simp[gi,h]
def iv(x:Int):Value:=.int .i64 x
def qm(w:World)(B:Nat)(A:Option Addr)(xs:List Int):Prop:=Sl w B 1 8 A xs.length (xs.map iv)
def Ints(w:World)(B:Nat)(v:Value)(xs:List Int):Prop:=∃A c,v=.slice A xs.length c/\xs.length<=c/\qm w B A xs
section
variable {w w' : World} {B B' : Nat} {A : Option Addr} {v : Value} {xs : List Int}
theorem qm.mono(h:qm w B A xs)(hB:B<=B'):qm w B' A xs:=Sl.mono h hB
theorem qm.below(h:qm w B A xs)(hb:Below B w w'):qm w' B A xs:=Sl.below h hb
theorem qm.at_(h:qm w B A xs){i:Nat}(hi:i<xs.length):∃b off,A=some ⟨b,off,none⟩/\b<B/\w.cell? ⟨b,off+i,none⟩=some (.int .i64 (gi xs i)):=by
 obtain⟨b,off,e,hb,hc⟩:=Sl.at_ h (by omega)
 exact⟨b,off,e,hb,hc i _ (by rw[List.getElem?_map,L3 hi];rfl)⟩
theorem qm.all(h:qm w B A xs)(h0:0<xs.length):∃b off,A=some ⟨b,off,none⟩/\b<B/\∀i,i<xs.length->w.cell? ⟨b,off+i,none⟩=some (.int .i64 (gi xs i)):=by
 obtain⟨b,off,e,hb,hc⟩:=Sl.at_ h h0
 exact⟨b,off,e,hb,fun i hi=>hc i _ (by rw[List.getElem?_map,L3 hi];rfl)⟩
theorem qm.eO:qm w B A []:=Sl.eO
theorem Ints.mono(h:Ints w B v xs)(hB:B<=B'):Ints w B' v xs:=by
 obtain⟨A,c,e,hc,h⟩:=h
 exact⟨A,c,e,hc,h.mono hB⟩
theorem Ints.below(h:Ints w B v xs)(hb:Below B w w'):Ints w' B v xs:=by
 obtain⟨A,c,e,hc,h⟩:=h
 exact⟨A,c,e,hc,h.below hb⟩
theorem Ints.Mw{base:Nat}{e:TypeId}(h:w.ownsRow base e 1 v xs.length (xs.map iv))(hr:xs.length*8<=140737488355328):Ints w w.heap.size v xs:=by
 have h':=h
 rcases h.2 with⟨rfl,h0⟩|⟨g,cap,cur,rfl,_,_,hle,_⟩
 ·refine⟨none,0,by rw[h0],by omega,?_⟩
  unfold qm
  rw[h0]
  obtain rfl:xs=[]:=List.eq_nil_of_length_eq_zero h0
  exact Sl.eO
 ·exact⟨_,cap,rfl,hle,Sl.Mw h' hr⟩
end
section
variable {H : Type} {enc : TypeId × Value → H} {P : Program} {w : World}
end
def Hl(P:Program)(T E:TypeId)(k u8:Nat)(z:Value):Prop:=
 P.underlying T=some (.slice E)/\(P.info? E).map (fun i=>(i.zero,i.size,i.bytes))=some (some z,k,u8)/\z.cells.size=k/\0<k/\0<u8
abbrev Gr(w w':World)(row:Option Nat):Prop:=w.grownBy w' row
theorem LZ(w:World)(row:Option Nat):Gr w w row:=⟨rfl,rfl,rfl,Nat.le_refl _,fun _ _ _=>rfl⟩
theorem acI{a b:World}(h:Kp a b)(row:Option Nat):Gr a b row:=⟨h.os,h.tape,h.output,h.size,fun i hi _=>h.block i hi⟩
theorem Vm{w w':World}{base:Nat}{e:TypeId}{k n:Nat}{v:Value}{xs:List Value}(h:w.ownsRow base e k v n xs)(hk:Kp w w'):w'.ownsRow base e k v n xs:=
 h.kept (acI hk none) (by cases hb:v.ownBlock<;>simp)
theorem aaE{n u8:Nat}(h0:0<u8)(h:n*u8<=140737488355328):n<=maxLen:=by
 have:n*1<=n*u8:=Nat.mul_le_mul_left n h0
 unfold maxLen
 omega
theorem aax{P:Program}{w:World}{ops:Array Oper}{rest:List Oper}{o:Oper}{a:Act}{Q:Exit->Act->World->Prop}{T E:TypeId}{k u8:Nat}{z:Value}(hT:Hl P T E k u8 z)
  (hgd:o.guard=none)(s x:Operand)(ho:o.op=.call {callee:=.builtin .append,args:=#[s,x],argTypes:=#[T,T]})
  {base:Nat}{v:Value}{n:Nat}{xs:List Value}(hown:w.ownsRow base E k v n xs)(hs:a.eval s=v){B:Nat}{A:Option Addr}{m c:Nat}{news:List Value}(hx:a.eval x=.slice A m c)
  (hsl:Sl w B k u8 A m news)(h1:∀u∈news,u.oneCell'=true)(hr:(n+m)*u8<=140737488355328)(hbase:base<=w.heap.size)
  (h:∀v' w',w'.ownsRow base E k v' (n+m) (xs++news)->Gr w w' v.ownBlock->(v'.ownBlock=v.ownBlock\/v'.ownBlock=some w.heap.size)->wpList P ops Q rest (a.put o.dst v') w'):
  wpList P ops Q (o::rest) a w:=by
 obtain⟨ht,hinfo,hzs,hsz,h8⟩:=hT
 obtain⟨i,hi,hz,hsize,hby⟩:=info_parts hinfo
 have key:∃v' w',(Builtin.append_ #[T,T] o.type #[v,.slice A m c]).run P w=.ok v' w'/\w'.ownsRow base E k v' (n+m) (xs++news)/\Gr w w' v.ownBlock/\(v'.ownBlock=v.ownBlock\/v'.ownBlock=some w.heap.size):=by
  rcases A with _|ad
  ·have hm:m=0:=by
    rcases Nat.eq_zero_or_pos m with h0|h0
    ·exact h0
    ·obtain⟨b,off,h,_⟩:=hsl.at_ h0
     cases h
   subst hm
   have hn:news=[]:=List.eq_nil_of_length_eq_zero (by simpa using hsl.len)
   subst hn
   refine⟨v,w,?_,by simpa using hown,LZ _ _,.inl rfl⟩
   rcases hown.2 with⟨rfl,rfl⟩|⟨g,cap,cur,rfl,_,_,hnc,_⟩
   ·simp[Builtin.append_,run_underlying ht,sizeOf,typeInfo,hi,Builtin.lenOf,Builtin.firstCells]
   ·simp[Builtin.append_,run_underlying ht,sizeOf,typeInfo,hi,Builtin.lenOf,Builtin.firstCells,hnc,storeCells]
  ·have hcells:∀j u,news[j]? =some u->w.cell? (ad.add j)=some u:=by
    intro j u hu
    rcases Nat.eq_zero_or_pos m with h0|h0
    ·subst h0
     have hn:news=[]:=List.eq_nil_of_length_eq_zero (by simpa using hsl.len)
     subst hn
     simp at hu
    ·obtain⟨b,off,h,_,hc⟩:=hsl.at_ h0
     injection h with h
     subst h
     rw[Addr.add_lit]
     exact hc j u hu
   obtain⟨v',w',hrun,r1,r2,_,r3⟩:=run_append_own_at (P:=P) w base T o.type E i z k u8 ht hi hz hsize hby hzs hsz v n xs hown ad m c news hsl.len hcells h1 (aaE h8 hr) hr hbase
   exact⟨v',w',hrun,r1,r2,r3⟩
 obtain⟨v',w',hrun,r1,r2,r3⟩:=key
 refine wpList_plain hgd fun _ hK=>?_
 unfold Oper.wp execOp
 simp only[ho,resolve,invoke,builtin,Sem.run_bind,Sem.run_pure,Result.andThen_ok,List.map_toArray,List.map_cons,List.map_nil,hs,hx,hrun]
 exact hK _ _ (h v' w' r1 r2 r3)
theorem Uw(w:World)(base:Nat)(e:TypeId)(k:Nat):w.ownsRow base e k (.slice none 0 0) 0 []:=World.ownsRow_nil w base e k
def iP(w:World)(base:Nat)(v:Value)(xs:List Int):Prop:=w.ownsRow base 3 1 v xs.length (xs.map iv)
section
variable {w w' : World} {base : Nat} {v : Value} {xs : List Int} {g cap : Nat}
theorem iP.eO:iP w base (.slice none 0 0) []:=Uw w base _ 1
theorem iP.form(h:iP w base v xs)(h0:0<xs.length):∃g cap,v=.slice (some ⟨g,0,none⟩) xs.length cap/\base<=g/\g<w.heap.size/\xs.length<=cap:=by
 have h':=h
 rcases h.2 with⟨_,h1⟩|⟨g,cap,cur,rfl,hg,_,hle,_⟩
 ·omega
 ·exact⟨g,cap,rfl,hg,(h'.lt g rfl).2,hle⟩
theorem iP.y7{A:Option Addr}{n:Nat}(h:iP w base (.slice A n cap) xs):n=xs.length:=by
 rcases h.2 with⟨h1,h2⟩|⟨g,c,cur,h1,_⟩
 ·injection h1 with _ h3;omega
 ·injection h1
theorem iP.cell{n:Nat}(h:iP w base (.slice (some ⟨g,0,none⟩) n cap) xs){i:Nat}(hi:i<xs.length):w.cell? ⟨g,i,none⟩=some (.int .i64 (gi xs i)):=by
 obtain rfl:=h.y7
 rw[World.ownsRow.cellAt h i (by omega),List.getElem?_map,L3 hi];rfl
theorem iP.free{n:Nat}(h:iP w base (.slice (some ⟨g,0,none⟩) n cap) xs)(i:Nat):w.frozen? ⟨g,i,none⟩=false:=by
 obtain rfl:=h.y7
 exact World.ownsRow.frozenAt h i
theorem iP.FI{n:Nat}(h:iP w base (.slice (some ⟨g,0,none⟩) n cap) xs)(i:Nat)(y:Int):
  iP (w.setCell ⟨g,i,none⟩ (.int .i64 y)) base (.slice (some ⟨g,0,none⟩) n cap) (xs.set i y):=by
 obtain rfl:=h.y7
 unfold iP
 rw[List.length_set,List.map_set]
 exact(World.ownsRow.stored h i (iv y)).1
theorem iP.kp(h:iP w base v xs)(hk:Kp w w'):iP w' base v xs:=Vm h hk
theorem iP.lt(h:iP w base v xs):∀k,v.ownBlock=some k->base<=k/\k<w.heap.size:=World.ownsRow.lt h
end
theorem agt:Hl Tryz.prog 83 3 1 8 (.int .i64 0):=⟨dm,by kernel_rfl,rfl,by omega,by omega⟩
theorem aft(xs:List Int)(i j:Nat)(y:Int)(h:i<xs.length):gi (xs.set i y) j=if i=j then y else gi xs j:=by
 unfold gi
 rw[List.getD_eq_getElem?_getD,List.getD_eq_getElem?_getD,List.getElem?_set]
 by_cases hij:i=j
 ·subst hij;simp[h]
 ·simp[hij]
theorem VE{xs ys:List Int}(hl:xs.length=ys.length)(h:∀i,i<xs.length->gi xs i=gi ys i):xs=ys:=by
 apply List.ext_getElem hl
 intro i h1 h2
 have:=h i h1
 rwa [NR h1,NR h2]at this
theorem K7{a b:World}{g:Nat}(h:Gr a b (some g))(i:Nat)(u:Value):Gr a (b.setCell ⟨g,i,none⟩ u) (some g):=
 ⟨h.os,h.tape,h.output,by simpa[World.setCell]using h.size,fun k hk hn=>(Below.heap_setCell b ⟨g,i,none⟩ u k (fun e=>hn (by rw[e]))).trans (h.block k hk hn)⟩
theorem Kp.own{a b c:World}{base:Nat}{e:TypeId}{k n:Nat}{v:Value}{xs:List Value}(h:Kp a b)(ho:b.ownsRow base e k v n xs)(hg:Gr b c v.ownBlock)(hb:a.heap.size<=base):Kp a c:=
 h.grown hg fun g hg'=>Nat.le_trans hb (ho.lt g hg').1
theorem aed{w:World}{g i:Nat}{u:Value}(h:w.cell? ⟨g,i,none⟩=some u):g<w.heap.size:=World.block_lt_of_cell? w ⟨g,i,none⟩ h
theorem Kp.c{a b:World}(h:Kp a b){g i:Nat}{u:Value}(hc:a.cell? ⟨g,i,none⟩=some u):b.cell? ⟨g,i,none⟩=some u:=(h.below.cell (p:=⟨g,i,none⟩) (aed hc)).trans hc
theorem Kp.fz{a b:World}(h:Kp a b){g i:Nat}{f:Bool}(hg:g<a.heap.size)(hc:a.frozen? ⟨g,i,none⟩=f):b.frozen? ⟨g,i,none⟩=f:=(h.below.frozen (p:=⟨g,i,none⟩) hg).trans hc
theorem Kp.al{a b:World}{o:Obj}(h:Kp (a.alloc o) b):Kp a b:=((Kp.refl a).alloc o).trans h
theorem Kp.lt{a b:World}(h:Kp a b){g:Nat}(hg:g<a.heap.size):g<b.heap.size:=Nat.lt_of_lt_of_le hg h.size
theorem Kp.cf{a b:World}(h:Kp a b){n:Nat}(hn:a.heap.size=n):(∀g i,g<n->b.cell? ⟨g,i,none⟩=a.cell? ⟨g,i,none⟩)/\(∀g i,g<n->b.frozen? ⟨g,i,none⟩=a.frozen? ⟨g,i,none⟩):=by
 subst hn
 exact⟨fun g i hg=>h.below.cell (p:=⟨g,i,none⟩) hg,fun g i hg=>h.below.frozen (p:=⟨g,i,none⟩) hg⟩
end Go.Proofs.YtcohmplpgcddiaaGreatDoor
namespace Go.Proofs.YtcohmplpgcddiaaGreatDoor
open Go.ChangeShapes Go.WideShapes Go.ChangeAt Go.RowKit
structure oK(α:Type) where
 f:α->List Value
 k:Nat
 u8:Nat
 hf:∀x,(f x).length=k
def Rd{α:Type}(C:oK α)(w:World)(B:Nat)(A:Option Addr)(xs:List α):Prop:=Sl w B C.k C.u8 A xs.length (xs.flatMap C.f)
def Rv{α:Type}(C:oK α)(w:World)(B:Nat)(v:Value)(xs:List α):Prop:=∃A c,v=.slice A xs.length c/\xs.length<=c/\Rd C w B A xs
def Ow{α:Type}(C:oK α)(E:TypeId)(w:World)(base:Nat)(v:Value)(xs:List α):Prop:=w.ownsRow base E C.k v xs.length (xs.flatMap C.f)
section
variable {α : Type} {C : oK α} {w w' : World} {B B' : Nat} {A : Option Addr} {v : Value} {xs : List α} {E : TypeId} {base : Nat}
theorem Rd.mono(h:Rd C w B A xs)(hB:B<=B'):Rd C w B' A xs:=Sl.mono h hB
theorem Rd.below(h:Rd C w B A xs)(hb:Below B w w'):Rd C w' B A xs:=Sl.below h hb
theorem Rd.kp(h:Rd C w w.heap.size A xs)(k:Kp w w'):Rd C w' w'.heap.size A xs:=(h.below k.below).mono k.size
theorem Rd.room(h:Rd C w B A xs):xs.length*C.u8<=140737488355328:=h.2.1
theorem Rd.eO:Rd C w B A []:=Sl.eO
theorem Rd.at_ [Inhabited α](h:Rd C w B A xs){i:Nat}(hi:i<xs.length):∃b off,A=some ⟨b,off,none⟩/\b<B/\∀j u,j<C.k->(C.f (ga xs i))[j]? =some u->w.cell? ⟨b,off+(i*C.k+j),none⟩=some u:=by
 obtain⟨b,off,e,hb,hc⟩:=Sl.at_ h (by omega)
 exact⟨b,off,e,hb,fun j u hj hu=>hc _ u (by rw[pQ C.hf hi hj,<-cZ hi];exact hu)⟩
theorem Rv.mono(h:Rv C w B v xs)(hB:B<=B'):Rv C w B' v xs:=by
 obtain⟨A,c,e,hc,h⟩:=h
 exact⟨A,c,e,hc,h.mono hB⟩
theorem Rv.below(h:Rv C w B v xs)(hb:Below B w w'):Rv C w' B v xs:=by
 obtain⟨A,c,e,hc,h⟩:=h
 exact⟨A,c,e,hc,h.below hb⟩
theorem Ow.eO:Ow C E w base (.slice none 0 0) []:=Uw w base E C.k
theorem Ow.kp(h:Ow C E w base v xs)(hk:Kp w w'):Ow C E w' base v xs:=Vm h hk
theorem Ow.lt(h:Ow C E w base v xs):∀k,v.ownBlock=some k->base<=k/\k<w.heap.size:=World.ownsRow.lt h
theorem Ow.kept{row:Option Nat}(h:Ow C E w base v xs)(hg:Gr w w' row)(hne:v.ownBlock=none\/v.ownBlock≠row):Ow C E w' base v xs:=World.ownsRow.kept h hg hne
theorem Ow.sl(h:Ow C E w base v xs):∃A c,v=.slice A xs.length c/\xs.length<=c:=by
 rcases h.2 with⟨rfl,h1⟩|⟨g,cap,cur,rfl,hg,_,hle,_⟩
 ·exact⟨none,0,by rw[h1],by omega⟩
 ·exact⟨_,cap,rfl,hle⟩
theorem Ow.form(h:Ow C E w base v xs)(h0:0<xs.length):∃g cap,v=.slice (some ⟨g,0,none⟩) xs.length cap/\base<=g/\g<w.heap.size/\xs.length<=cap:=by
 have h':=h
 rcases h.2 with⟨_,h1⟩|⟨g,cap,cur,rfl,hg,_,hle,_⟩
 ·omega
 ·exact⟨g,cap,rfl,hg,(h'.lt g rfl).2,hle⟩
theorem Ow.y7{n c:Nat}(h:Ow C E w base (.slice A n c) xs):n=xs.length:=by
 rcases h.2 with⟨h1,h2⟩|⟨g,c,cur,h1,_⟩
 ·injection h1 with _ h3;omega
 ·injection h1
theorem Ow.cell [Inhabited α]{g n c:Nat}(h:Ow C E w base (.slice (some ⟨g,0,none⟩) n c) xs){i:Nat}(hi:i<xs.length){j:Nat}{u:Value}(hj:j<C.k)(hu:(C.f (ga xs i))[j]? =some u):w.cell? ⟨g,i*C.k+j,none⟩=some u:=by
 obtain rfl:=h.y7
 have hlt:i*C.k+j<xs.length*C.k:=by
  have:=Nat.mul_le_mul_right C.k (show i+1<=xs.length by omega)
  rw[Nat.succ_mul]at this
  omega
 rw[World.ownsRow.cellAt h _ hlt,pQ C.hf hi hj,<-cZ hi,hu]
theorem Ow.free{g n c:Nat}(h:Ow C E w base (.slice (some ⟨g,0,none⟩) n c) xs)(i:Nat):w.frozen? ⟨g,i,none⟩=false:=by
 obtain rfl:=h.y7
 exact World.ownsRow.frozenAt h i
end
structure Cr where
 a:Int
 b:Int
 c:Int
 d:Int
 plus:Bool
instance :Inhabited Cr:=⟨⟨0,0,0,0,false⟩⟩
def u6(x:Cr):List Value:=[.int .i64 x.a,.int .i64 x.b,.int .i64 x.c,.int .i64 x.d,.bool x.plus]
def nX:oK Cr:=⟨u6,5,40,fun _=>rfl⟩
def D7(x:Cr):Value:=.agg #[.int .i64 x.a,.int .i64 x.b,.int .i64 x.c,.int .i64 x.d,.bool x.plus]
theorem Gf{w:World}{B:Nat}{A:Option Addr}{xs:List Cr}(h:Rd nX w B A xs){i:Nat}(hi:i<xs.length):∃b off,A=some ⟨b,off,none⟩/\b<B/\
  w.cell? ⟨b,off+i*5,none⟩=some (.int .i64 (ga xs i).a)/\w.cell? ⟨b,off+i*5+1,none⟩=some (.int .i64 (ga xs i).b)/\
  w.cell? ⟨b,off+i*5+2,none⟩=some (.int .i64 (ga xs i).c)/\w.cell? ⟨b,off+i*5+3,none⟩=some (.int .i64 (ga xs i).d)/\
  w.cell? ⟨b,off+i*5+4,none⟩=some (.bool (ga xs i).plus):=by
 obtain⟨b,off,e,hb,hc⟩:=h.at_ hi
 exact⟨b,off,e,hb,hc 0 _ (by decide) rfl,hc 1 _ (by decide) rfl,hc 2 _ (by decide) rfl,hc 3 _ (by decide) rfl,hc 4 _ (by decide) rfl⟩
structure Dg where
 ae:List Cr
 loops:Int
def pS(w:World)(B:Nat)(v:Value)(d:Dg):Prop:=∃A c,v=.agg #[.slice A d.ae.length c,.int .i64 d.loops]/\d.ae.length<=c/\Rd nX w B A d.ae
theorem DW{b n:Nat}(h:b<n):b<n/\b<n+1/\b<n+2/\b<n+3/\b<n+4:=by omega
def cW(w:World)(g:Nat)(t:TypeId)(cs:Array Value):Prop:=w.heap[g]? =some (.cells cs t (0,0))
section
variable {w w' : World} {g : Nat} {t : TypeId} {cs : Array Value}
theorem cW.lt(h:cW w g t cs):g<w.heap.size:=by
 rcases Nat.lt_or_ge g w.heap.size with hlt|hge
 ·exact hlt
 ·unfold cW at h;rw[Array.getElem?_eq_none hge]at h;cases h
theorem cW.cell(h:cW w g t cs)(i:Nat){u:Value}(hu:cs[i]? =some u):w.cell? ⟨g,i,none⟩=some u:=by rw[cell_of_row w g i cs t (0,0) h,hu]
theorem cW.free(h:cW w g t cs)(i:Nat):w.frozen? ⟨g,i,none⟩=false:=frozen_of_row w g i cs t h
theorem cW.new(w:World)(t:TypeId)(cs:Array Value):cW (w.alloc (.cells cs t)) w.heap.size t cs:=heap_alloc_new w _
theorem cW.new'(w:World)(t:TypeId)(cs:Array Value){n:Nat}(hn:w.heap.size=n):cW (w.alloc (.cells cs t)) n t cs:=by subst hn;exact heap_alloc_new w _
theorem cW.drewN(h:cW w g t cs)(n:Nat):cW (w.drewN n) g t cs:=h
theorem cW.drew(h:cW w g t cs):cW w.drew g t cs:=h
theorem cW.alloc(h:cW w g t cs)(o:Obj):cW (w.alloc o) g t cs:=(Below.heap_alloc w o g h.lt).trans h
theorem cW.far(h:cW w g t cs){p:Addr}(hp:g≠p.block)(u:Value):cW (w.setCell p u) g t cs:=(Below.heap_setCell w p u g hp).trans h
theorem cW.kp(h:cW w g t cs)(hk:Kp w w'):cW w' g t cs:=(hk.block g h.lt).trans h
theorem cW.gr{row:Option Nat}(h:cW w g t cs)(hg:Gr w w' row)(hne:some g≠row):cW w' g t cs:=(hg.block g h.lt hne).trans h
end
theorem cW.two{w:World}{g:Nat}{t:TypeId}{x y:Value}(h:cW w g t #[x,y]):w.cell? ⟨g,0,none⟩=some x/\w.cell? ⟨g,1,none⟩=some y/\w.frozen? ⟨g,0,none⟩=false/\w.frozen? ⟨g,1,none⟩=false:=
 ⟨h.cell 0 rfl,h.cell 1 rfl,h.free 0,h.free 1⟩
theorem UH{P:Program}{T E:TypeId}{k u8:Nat}{z:Value}(hT:Hl P T E k u8 z)(n:Nat)(x:Int)(hx:x=(n:Int))(hb:n*u8<=140737488355328)(w:World):
  (Instr.makeSlice T (.int .i64 x) (.int .i64 x)).run P w=.ok (.slice (some ⟨w.heap.size,0,none⟩) n n) (w.alloc (.cells (madeCells z.cells (n*k)) E)):=by
 subst hx
 obtain⟨ht,hinfo,hzs,hsz,h8⟩:=hT
 obtain⟨i,hi,hz,hsize,hby⟩:=info_parts hinfo
 have h1:n*1<=n*u8:=Nat.mul_le_mul_left n h8
 have hr:=run_make (P:=P) w T E i z ht hi hz .i64 .i64 (n:Int) (n:Int) (by omega) (by omega) (by
  rw[hby]
  have h:((u8*n:Nat):Int)<=140737488355328:=by rw[Nat.mul_comm];omega
  rw[Int.natCast_mul]at h
  omega) (by omega)
 rw[hsize]at hr
 simpa using hr
theorem aaY{α:Type}(C:oK α)(y:α)(z:Value)(hz:z.cells.toList=C.f y)(n:Nat):(madeCells z.cells (n*C.k)).toList=(List.replicate n y).flatMap C.f:=by
 have hk:z.cells.size=C.k:=by rw[<-C.hf y,<-hz];simp
 apply List.ext_getElem?
 intro m
 by_cases hm:m<n*C.k
 ·have hk0:0<C.k:=by
   rcases Nat.eq_zero_or_pos C.k with h|h
   ·rw[h,Nat.mul_zero]at hm;omega
   ·exact h
  have hi:m/C.k<(List.replicate n y).length:=by rw[List.length_replicate];exact(Nat.div_lt_iff_lt_mul hk0).2 hm
  have hj:m%C.k<C.k:=Nat.mod_lt _ hk0
  have e:=pQ C.hf hi hj
  rw[show m/C.k*C.k+m%C.k=m by rw[Nat.mul_comm];exact Nat.div_add_mod m C.k]at e
  rw[e,List.getElem_replicate,<-hz]
  simp only[madeCells,hk,Array.toList_map,Array.toList_range,List.getElem?_map,List.getElem?_range hm,Option.map_some]
  rw[Array.getElem!_eq_getD]
  simp[hk,hj]
 ·rw[List.getElem?_eq_none,List.getElem?_eq_none]
  ·rw[oq C.hf,List.length_replicate];omega
  ·simp[madeCells];omega
theorem Ow.aeV{α:Type}{C:oK α}{E:TypeId}{w:World}{g base:Nat}{cs:Array Value}{xs:List α}(h:cW w g E cs)(hcs:cs.toList=xs.flatMap C.f)(hb:base<=g)(hm:xs.length<=maxLen):
  Ow C E w base (.slice (some ⟨g,0,none⟩) xs.length xs.length) xs:=by
 have hl:=oq C.hf xs
 refine⟨hl,.inr ⟨g,xs.length,cs,rfl,hb,h,Nat.le_refl _,hm,by rw[<-hl,<-hcs];simp,?_⟩⟩
 rw[hcs,<-hl,List.take_length]
theorem Ow.made{α:Type}{C:oK α}{E:TypeId}{w:World}{g base n:Nat}{y:α}{z:Value}(hz:z.cells.toList=C.f y)(h:cW w g E (madeCells z.cells (n*C.k)))(hb:base<=g)(hm:n<=maxLen):
  Ow C E w base (.slice (some ⟨g,0,none⟩) n n) (List.replicate n y):=by
 have:=Ow.aeV (C:=C) (xs:=List.replicate n y) h (aaY C y z hz n) hb (by simpa using hm)
 simpa using this
def Gg:oK Int:=⟨fun x=>[iv x],1,8,fun _=>rfl⟩
theorem UQ(xs:List Int):xs.flatMap Gg.f=xs.map iv:=by
 induction xs with
 |nil=>rfl
 |cons x xs ih=>rw[List.flatMap_cons,ih];rfl
theorem iP.Wm{w:World}{base:Nat}{v:Value}{xs:List Int}(h:Ow Gg 3 w base v xs):iP w base v xs:=by
 unfold iP
 rw[<-UQ]
 exact h
theorem Kp.alt{w w1:World}{o:Obj}(h:Kp (w.alloc o) w1):w.heap.size<w1.heap.size:=by
 have:=h.size
 simp at this
 omega
theorem Ow.base{α:Type}{C:oK α}{E:TypeId}{w:World}{b b':Nat}{v:Value}{xs:List α}(h:Ow C E w b v xs)(hb:b'<=b):Ow C E w b' v xs:=by
 rcases h with⟨h1,h2|⟨g,cap,cur,r1,r2,r3⟩⟩
 ·exact⟨h1,.inl h2⟩
 ·exact⟨h1,.inr ⟨g,cap,cur,r1,by omega,r3⟩⟩
theorem Ow.o7{α β:Type}{C:oK α}{C':oK β}{E E':TypeId}{w:World}{b b':Nat}{v v':Value}{xs:List α}{ys:List β}(h:Ow C E w b v xs)(h':Ow C' E' w b' v' ys)(hne:E≠E'):v.ownBlock=none\/v.ownBlock≠v'.ownBlock:=by
 rcases h.2 with⟨rfl,_⟩|⟨g,cap,cur,rfl,_,hh,_⟩
 ·exact .inl rfl
 ·rcases h'.2 with⟨rfl,_⟩|⟨g',cap',cur',rfl,_,hh',_⟩
  ·exact .inr (by simp[Value.ownBlock])
  ·refine .inr fun e=>?_
   simp only[Value.ownBlock,Option.some.injEq]at e
   subst e
   rw[hh]at hh'
   injection hh' with h1
   injection h1 with _ h2
   exact hne h2
theorem Ow.IW{α:Type}{C:oK α}{E t:TypeId}{w:World}{b g:Nat}{v:Value}{xs:List α}{cs:Array Value}(h:Ow C E w b v xs)(h':cW w g t cs)(hne:E≠t):v.ownBlock=none\/v.ownBlock≠some g:=by
 rcases h.2 with⟨rfl,_⟩|⟨g',cap,cur,rfl,_,hh,_⟩
 ·exact .inl rfl
 ·refine .inr fun e=>?_
  simp only[Value.ownBlock,Option.some.injEq]at e
  subst e
  unfold cW at h'
  rw[hh]at h'
  injection h' with h1
  injection h1 with _ h2
  exact hne h2
theorem Ow.Xj{α:Type}[Inhabited α]{C:oK α}{E:TypeId}{w:World}{base g n c:Nat}{xs:List α}(h:Ow C E w base (.slice (some ⟨g,0,none⟩) n c) xs)(hk:C.k=2){i:Nat}(hi:i<xs.length)(u0 u1:Value)(y:α)(hy:C.f y=[u0,u1]):
  Ow C E ((w.setCell ⟨g,i*2,none⟩ u0).setCell ⟨g,i*2+1,none⟩ u1) base (.slice (some ⟨g,0,none⟩) n c) (xs.set i y):=by
 obtain rfl:=h.y7
 have hl:(C.f (ga xs i)).length=2:=by rw[C.hf,hk]
 have e1:=(World.ownsRow.stored h (i*2) u0).1
 have e2:=(World.ownsRow.stored e1 (i*2+1) u1).1
 unfold Ow
 rw[List.length_set]
 have hx:((xs.flatMap C.f).set (i*2) u0).set (i*2+1) u1=(xs.set i y).flatMap C.f:=by
  apply List.ext_getElem?
  intro m
  have hm2:m=m/2*2+m%2:=by omega
  by_cases hm:m<xs.length*2
  ·have qL:m/2<xs.length:=by omega
   have zB:m%2<C.k:=by omega
   have g1:=pQ C.hf qL zB
   have g2:=pQ (xs:=xs.set i y) C.hf (i:=m/2) (j:=m%2) (by rw[List.length_set];exact qL) zB
   rw[hk,<-hm2]at g1 g2
   rw[g2,List.getElem?_set,List.getElem?_set,List.length_set,oq C.hf,hk,g1]
   by_cases h1:i=m/2
   ·have e:(xs.set i y)[m/2]'(by rw[List.length_set];exact qL)=y:=by subst h1;simp
    rw[e,hy]
    rcases(show m%2=0\/m%2=1 by omega)with h2|h2
    ·rw[if_neg (by omega),if_pos (by omega),if_pos (by omega),h2];rfl
    ·rw[if_pos (by omega),if_pos (by omega),h2];rfl
   ·have e:(xs.set i y)[m/2]'(by rw[List.length_set];exact qL)=xs[m/2]:=by rw[List.getElem_set_ne (by omega)]
    rw[e,if_neg (by omega),if_neg (by omega)]
  ·rw[List.getElem?_eq_none (by rw[List.length_set,List.length_set,oq C.hf,hk];omega),List.getElem?_eq_none (by rw[oq C.hf,List.length_set,hk];omega)]
 rw[<-hx]
 exact e2
theorem UM{w:World}{g i j:Nat}(u v:Value):Gr w ((w.setCell ⟨g,i,none⟩ u).setCell ⟨g,j,none⟩ v) (some g):=K7 (K7 (LZ w _) i u) j v
theorem UN{w:World}{g i:Nat}(u:Value):Gr w (w.setCell ⟨g,i,none⟩ u) (some g):=K7 (LZ w _) i u
theorem cW.cr{w:World}{g:Nat}{t:TypeId}{a b c d e:Value}(h:cW w g t #[a,b,c,d,e]):w.cell? ⟨g,0,none⟩=some a/\w.cell? ⟨g,1,none⟩=some b/\w.cell? ⟨g,2,none⟩=some c/\w.cell? ⟨g,3,none⟩=some d/\w.cell? ⟨g,4,none⟩=some e:=
 ⟨h.cell 0 rfl,h.cell 1 rfl,h.cell 2 rfl,h.cell 3 rfl,h.cell 4 rfl⟩
theorem cW.four{w:World}{g:Nat}{t:TypeId}{a b c d:Value}(h:cW w g t #[a,b,c,d]):w.cell? ⟨g,0,none⟩=some a/\w.cell? ⟨g,1,none⟩=some b/\w.cell? ⟨g,2,none⟩=some c/\w.cell? ⟨g,3,none⟩=some d:=
 ⟨h.cell 0 rfl,h.cell 1 rfl,h.cell 2 rfl,h.cell 3 rfl⟩
end Go.Proofs.YtcohmplpgcddiaaGreatDoor
namespace Go.Proofs.YtcohmplpgcddiaaGreatDoor
open Go.ChangeShapes Go.WideShapes Go.ChangeAt Go.RowKit
def dw(x:Cr)(k:Nat):Int:=if k=0 then x.a else if k=1 then x.b else if k=2 then x.c else x.d
def kS(x:Cr)(k:Nat):Bool:=decide (k=0\/k=1/\x.plus=false\/k=3/\x.plus=true)
def aL(d:Dg)(c k:Nat):Int:=dw (ga d.ae c) k
def bO(d:Dg)(c k:Nat):Bool:=kS (ga d.ae c) k
def Md(n:Int)(w:World)(e:Ending)(w':World):Prop:=e=.returned (.int .i64 n)/\Kp w w'
def CO(b:Bool)(w:World)(e:Ending)(w':World):Prop:=e=.returned (.bool b)/\Kp w w'
set_option maxHeartbeats 1000000 in
theorem Dz(v:Value)(d:Dg)(c k:Nat)(w:World)(hd:pS w w.heap.size v d)(hc:c<d.ae.length)(hk:k<4):
  Calls Tryz.prog 32 #[v,.agg #[.int .i64 c,.int .i64 k]] w (Md (aL d c k) w):=by
 obtain⟨A,cap,rfl,hcap,hr⟩:=hd
 have hrm:=hr.room
 obtain⟨b,off,rfl,hb,c0,c1,c2,c3,c4⟩:=Gf hr hc
 have hkk:k=0\/k=1\/k=2\/k=3:=by omega
 obtain⟨l0,l1,l2,l3,l4⟩:=DW hb
 clear hr
 rcases hkk with rfl|rfl|rfl|rfl
 all_goals
  go_enter Tryz.func32,Tryz.ntmps32
  go_wp2_with fail
  go_ret
  exact⟨rfl,(((Kp.refl _).alloc _).alloc _).alloc _⟩
set_option maxHeartbeats 2000000 in
theorem HP(v:Value)(d:Dg)(c k:Nat)(w:World)(hd:pS w w.heap.size v d)(hc:c<d.ae.length)(hk:k<4):
  Calls Tryz.prog 33 #[v,.agg #[.int .i64 c,.int .i64 k]] w (CO (bO d c k) w):=by
 obtain⟨A,cap,rfl,hcap,hr⟩:=hd
 have hrm:=hr.room
 obtain⟨b,off,rfl,hb,c0,c1,c2,c3,c4⟩:=Gf hr hc
 obtain⟨l0,l1,l2,l3,l4⟩:=DW hb
 have hkk:k=0\/k=1\/k=2\/k=3:=by omega
 clear hr c0 c1 c2 c3
 unfold bO
 generalize ga d.ae c=x at*
 obtain⟨xa,xb,xc,xd,xp⟩:=x
 dsimp only at c4
 rcases hkk with rfl|rfl|rfl|rfl
 all_goals
  cases xp
  all_goals
   go_enter Tryz.func33,Tryz.ntmps33
   go_wp2_with fail
   go_ret
   exact⟨rfl,((Kp.refl _).alloc _).alloc _⟩
def jh(d:Dg)(a:Int)(back:Bool)(j:Nat):Bool:=decide (aL d (j/4) (j%4)=a)&&(bO d (j/4) (j%4)!=back)
def aF(d:Dg)(a:Int)(back:Bool):Nat×Nat:=
 match(List.range (4*d.ae.length)).find? (jh d a back)with
 |some j=>(j/4,j%4)
 |none=>(0,0)
theorem Lm{d:Dg}{a:Int}{back:Bool}{j:Nat}(hj:j<4*d.ae.length)(h:jh d a back j=true)(h0:∀i,i<j->jh d a back i=false):aF d a back=(j/4,j%4):=by
 have:(List.range (4*d.ae.length)).find? (jh d a back)=some j:=by
  rw[List.find?_range_eq_some]
  exact⟨h,by simpa using hj,fun i hi=>by simp[h0 i hi]⟩
 unfold aF
 rw[this]
theorem R4{d:Dg}{a:Int}{back:Bool}(h0:∀i,i<4*d.ae.length->jh d a back i=false):aF d a back=(0,0):=by
 have:(List.range (4*d.ae.length)).find? (jh d a back)=none:=by
  rw[List.find?_eq_none]
  intro i hi
  simp[h0 i (by simpa using hi)]
 unfold aF
 rw[this]
theorem yw{d:Dg}{a:Int}{back:Bool}{i k:Nat}(hk:k<4):jh d a back (4*i+k)=(decide (aL d i k=a)&&(bO d i k !=back)):=by
 unfold jh
 rw[show(4*i+k)/4=i by omega,show(4*i+k)%4=k by omega]
end Go.Proofs.YtcohmplpgcddiaaGreatDoor
namespace Go.Proofs.YtcohmplpgcddiaaGreatDoor
open Go.ChangeShapes Go.WideShapes Go.ChangeAt Go.RowKit
def bu:Cd Cr:=⟨u6,5,40,68,⟨0,0,0,0,false⟩,fun _=>rfl,by
 intro x u hu
 simp[u6]at hu
 rcases hu with rfl|rfl|rfl|rfl|rfl<;>rfl⟩
end Go.Proofs.YtcohmplpgcddiaaGreatDoor
namespace Go.Proofs.YtcohmplpgcddiaaGreatDoor
open Go.ChangeShapes Go.WideShapes Go.ChangeAt Go.RowKit
def aem(w:World)(e:Ending)(w':World):Prop:=e=.returned (.bool true)/\Kp w w'
set_option maxHeartbeats 2000000 in
theorem aeO(u v:Value)(d:Dg)(w:World)(hu:pS w w.heap.size u d)(hv:pS w w.heap.size v d):
  Calls Tryz.prog 10 #[u,v] w (aem w):=by
 obtain⟨A,c,rfl,hc,ha⟩:=hu
 obtain⟨A',c',rfl,hc',ha'⟩:=hv
 have hr:d.ae.length*40<=140737488355328:=ha.room
 go_enter Tryz.func10,Tryz.ntmps10
 go_wp2_with fail
 go_loopw [5] (fun i wr=>∃k:Nat,k<=d.ae.length/\i=.int .i64 k/\Kp w wr/\cW wr w.heap.size 24 #[.slice A d.ae.length c,.int .i64 d.loops]/\cW wr (w.heap.size+1) 24 #[.slice A' d.ae.length c',.int .i64 d.loops]) (fun i _=>d.ae.length-(intOf i).toNat)
 case atStart=>exact⟨0,Nat.zero_le _,rfl,((Kp.refl _).alloc _).alloc _,(cW.new _ _ _).alloc _,cW.new' _ _ _ (by simp)⟩
 case round=>
  obtain⟨k,hk,rfl,hkp,hB,hB'⟩:=hrel
  obtain⟨e0,e1,e2,e3⟩:=hB.two
  obtain⟨f0,f1,f2,f3⟩:=hB'.two
  by_cases hlt:k<d.ae.length
  ·obtain⟨b,off,rfl,hb1,c0,c1,c2,c3,c4⟩:=Gf (ha.kp hkp) hlt
   obtain⟨b',off',rfl,hb2,c0',c1',D9,c3',c4'⟩:=Gf (ha'.kp hkp) hlt
   clear ha ha'
   go_wp2_with fail
   go_quiet (fail)
   go_wp2_with fail
   go_roundw
   case rel=>exact⟨k+1,by omega,by go_num,hkp.drewN _,hB.drewN _,hB'.drewN _⟩
   case measure=>simp[intOf]<;>omega
  ·go_wp2_with fail
   go_ret
   exact⟨rfl,hkp⟩
theorem aim:Hl Tryz.prog 22 68 5 40 (.agg #[.int .i64 0,.int .i64 0,.int .i64 0,.int .i64 0,.bool false]):=⟨cE,by kernel_rfl,rfl,by omega,by omega⟩
theorem afz(xs:List Cr):∀u∈xs.flatMap nX.f,u.oneCell'=true:=by
 intro u hu
 obtain⟨x,_,hx⟩:=List.mem_flatMap.1 hu
 simp[nX,u6]at hx
 rcases hx with rfl|rfl|rfl|rfl|rfl<;>rfl
end Go.Proofs.YtcohmplpgcddiaaGreatDoor
namespace Go.Proofs.YtcohmplpgcddiaaGreatDoor
open Go.ChangeShapes Go.WideShapes Go.ChangeAt Go.RowKit
def eU(d:Dg)(a:Int)(back:Bool)(j:Nat):Nat:=(List.range j).countP (jh d a back)
theorem xF(d:Dg)(a:Int)(back:Bool)(j:Nat):eU d a back (j+1)=eU d a back j+if jh d a back j=true then 1 else 0:=by
 unfold eU
 rw[List.range_succ,List.countP_append,List.countP_singleton]
theorem CJ(d:Dg)(a:Int)(back:Bool)(j:Nat):eU d a back j<=j:=by
 unfold eU
 have:=List.countP_le_length (p:=jh d a back) (l:=List.range j)
 simpa using this
theorem UZ{d:Dg}{a:Int}{back:Bool}{i k:Nat}(hk:k<4):
  eU d a back (4*i+(k+1))=eU d a back (4*i+k)+if aL d i k=a/\bO d i k≠back then 1 else 0:=by
 rw[<-Nat.add_assoc,xF,yw hk]
 simp
def oL(d:Dg)(a:Int):Bool:=eU d a false (4*d.ae.length)==1&&eU d a true (4*d.ae.length)==1
def fp(d:Dg):Bool:=decide (d.ae.length<=16/\0<=d.loops/\d.loops<=16/\¬(d.ae.length=0/\d.loops=0))&&(List.range (2*d.ae.length)).all fun a=>oL d ((a+1:Nat):Int)
theorem Sr{d:Dg}(h:¬(d.ae.length<=16/\0<=d.loops/\d.loops<=16/\¬(d.ae.length=0/\d.loops=0))):fp d=false:=by
 unfold fp;rw[decide_eq_false h];rfl
theorem TI{d:Dg}{a:Nat}(h0:1<=a)(h1:a<=2*d.ae.length)(h:oL d a=false):fp d=false:=by
 unfold fp
 rw[Bool.and_eq_false_iff]
 refine .inr (List.all_eq_false.2 ⟨a-1,by simp;omega,?_⟩)
 rw[show a-1+1=a by omega,h];simp
theorem acz{d:Dg}(h:d.ae.length<=16/\0<=d.loops/\d.loops<=16/\¬(d.ae.length=0/\d.loops=0))(h2:∀a:Nat,1<=a->a<=2*d.ae.length->oL d a=true):fp d=true:=by
 unfold fp
 rw[decide_eq_true h,Bool.true_and]
 refine List.all_eq_true.2 fun a ha=>h2 (a+1) (by omega) ?_
 simp at ha
 omega
set_option maxHeartbeats 2000000 in
theorem aad(v:Value)(d:Dg)(w:World)(hd:pS w w.heap.size v d)(h:¬(d.ae.length<=16/\0<=d.loops/\d.loops<=16/\¬(d.ae.length=0/\d.loops=0))):
  Calls Tryz.prog 15 #[v] w (CO false w):=by
 obtain⟨A,cap,rfl,hcap,hr⟩:=hd
 have hrm:d.ae.length*40<=140737488355328:=hr.room
 clear hr
 obtain⟨cs,loops⟩:=d
 dsimp only at*
 generalize cs.length=n at*
 by_cases h1:16<n
 ·go_enter Tryz.func15,Tryz.ntmps15
  go_wp2_with fail
  go_ret
  exact⟨rfl,(Kp.refl _).alloc _⟩
 ·by_cases h2:loops<0
  ·go_enter Tryz.func15,Tryz.ntmps15
   go_wp2_with fail
   go_ret
   exact⟨rfl,(Kp.refl _).alloc _⟩
  ·by_cases h3:16<loops
   ·go_enter Tryz.func15,Tryz.ntmps15
    go_wp2_with fail
    go_ret
    exact⟨rfl,(Kp.refl _).alloc _⟩
   ·obtain⟨rfl,rfl⟩:n=0/\loops=0:=by omega
    go_enter Tryz.func15,Tryz.ntmps15
    go_wp2_with fail
    go_ret
    exact⟨rfl,(Kp.refl _).alloc _⟩
set_option maxHeartbeats 4000000 in
theorem aae(v:Value)(d:Dg)(w:World)(hd:pS w w.heap.size v d)(h:d.ae.length<=16/\0<=d.loops/\d.loops<=16/\¬(d.ae.length=0/\d.loops=0)):
  Calls Tryz.prog 15 #[v] w (CO (fp d) w):=by
 obtain⟨A,cap,rfl,hcap,hr⟩:=hd
 have hd:∀w',Kp w w'->pS w' w'.heap.size (.agg #[.slice A d.ae.length cap,.int .i64 d.loops]) d:=fun w' hk=>⟨A,cap,rfl,hcap,hr.kp hk⟩
 have HD:=Lib.hid hd
 clear hd hr
 have Hsz:=Lib.hid h
 obtain⟨h1,h2,h3,h4⟩:=h
 have hq:¬(d.ae.length=0/\d.loops=0)->(((d.ae.length:Int)==0:Bool)=false)\/((((d.ae.length:Int)==0):Bool)=true/\((d.loops==0):Bool)=false):=by
  intro h
  by_cases h0:d.ae.length=0
  ·exact .inr ⟨by rw[beq_iff_eq];omega,by rw[beq_eq_false_iff_ne];omega⟩
  ·exact .inl (by rw[beq_eq_false_iff_ne];omega)
 have hq':=hq h4
 clear hq h4
 go_enter Tryz.func15,Tryz.ntmps15
 go_upto_region 2 with(fail)
 go_cut [33] (fun c wx=>c=.bool false/\wx=w.alloc (.cells #[.slice A d.ae.length cap,.int .i64 d.loops] 24))
 case first=>
  rcases hq' with hq'|⟨hq',anf⟩
  ·go_wp2_with fail
   go_meet
   case rel=>exact⟨congrArg Value.bool (by simp;omega),rfl⟩
  ·go_wp2_with fail
   go_meet
   case rel=>exact⟨congrArg Value.bool (by simp;omega),rfl⟩
 case rest=>
  obtain⟨rfl,rfl⟩:=hcut
  clear hq'
  go_wp2_with fail
  go_loopw [4] (fun i wr=>∃a:Nat,1<=a/\a<=2*d.ae.length+1/\i=.int .i64 a/\Hid (∀a':Nat,1<=a'->a'<a->oL d a'=true)/\Kp w wr/\
   cW wr w.heap.size 24 #[.slice A d.ae.length cap,.int .i64 d.loops]) (fun i _=>2*d.ae.length+1-(intOf i).toNat)
  case atStart=>exact⟨1,by omega,by omega,rfl,fun a h1 h2=>by omega,(Kp.refl _).alloc _,cW.new _ _ _⟩
  case round=>
   obtain⟨a,ha0,ha1,rfl,hok,hk,hB⟩:=hrel
   by_cases hlt:a<=2*d.ae.length
   ·obtain⟨wo,rfl⟩:∃wo:World,wo=wr:=⟨_,rfl⟩
    have ta:decide ((a:Int)<=2*(d.ae.length:Int))=true:=by simp;omega
    go_wp2_with fail
    go_loopw [5,6,7] (fun ci co i wr=>∃n:Nat,n<=d.ae.length/\i=.int .i64 n/\ci=.int .i64 (eU d a false (4*n))/\co=.int .i64 (eU d a true (4*n))/\Kp w wr/\
     cW wr w.heap.size 24 #[.slice A d.ae.length cap,.int .i64 d.loops]) (fun _ _ i _=>d.ae.length-(intOf i).toNat)
    case atStart=>exact⟨0,Nat.zero_le _,rfl,rfl,rfl,hk,hB⟩
    case round=>
     clear hk hB
     obtain⟨n,hn,rfl,rfl,rfl,hk,hB⟩:=hrel
     by_cases hlt2:n<d.ae.length
     ·clear wo
      obtain⟨wo,rfl⟩:∃wo:World,wo=wr:=⟨_,rfl⟩
      have cl1:=CJ d a false (4*n)
      have Cs:=CJ d a true (4*n)
      go_wp2_with fail
      go_loopw [5,6,8] (fun ci co i wr=>∃m:Nat,m<=4/\i=.int .i64 m/\ci=.int .i64 (eU d a false (4*n+m))/\co=.int .i64 (eU d a true (4*n+m))/\Kp w wr/\
       cW wr w.heap.size 24 #[.slice A d.ae.length cap,.int .i64 d.loops]) (fun _ _ i _=>4-(intOf i).toNat)
      case atStart=>exact⟨0,Nat.zero_le _,rfl,rfl,rfl,hk,hB⟩
      case round=>
       clear hk hB cl1 Cs
       obtain⟨m,hm,rfl,rfl,rfl,hk,hB⟩:=hrel
       obtain⟨e0,e1,e2,e3⟩:=hB.two
       obtain⟨s00,s01,s02,s03,s04⟩:=DW hB.lt
       by_cases mB:m<4
       ·have c1:=UZ (d:=d) (a:=a) (back:=false) (i:=n) mB
        have c2:=UZ (d:=d) (a:=a) (back:=true) (i:=n) mB
        have cl1:=CJ d a false (4*n+m)
        have Cs:=CJ d a true (4*n+m)
        by_cases ha:aL d n m=(a:Int)
        ·have t1:((aL d n m==(a:Int)):Bool)=true:=by rw[beq_iff_eq];exact ha
         have s4:4*n+m<64:=by omega
         cases he:bO d n m
         ·rw[if_neg (by simp[he])]at c1
          rw[if_pos (by simp[ha,he])]at c2
          have c1':=Lib.hid c1
          have D9:=Lib.hid c2
          have he':=Lib.hid he
          clear c1 c2 ha he
          go_wp2_with fail
          refine(Dz _ d n m _ (HD.out _ (hk.alloc _)) hlt2 mB).mono ?_;rintro e w1 ⟨rfl,hk1⟩
          obtain⟨cc,cf⟩:=hk1.cf (n:=wr.heap.size+1) (by simp)
          go_wp2_with fail
          refine(HP _ d n m _ (HD.out _ ((hk.alloc _).trans hk1)) hlt2 mB).mono ?_;rintro e w2 ⟨rfl,hk2⟩
          obtain⟨c2,f2⟩:=(hk1.trans hk2).cf (n:=wr.heap.size+1) (by simp)
          clear cc cf
          rw[he'.out]
          go_wp2_with fail
          refine(Dz _ d n m _ (HD.out _ (((hk.alloc _).trans hk1).trans hk2)) hlt2 mB).mono ?_;rintro e w3 ⟨rfl,hk3⟩
          obtain⟨c3,f3⟩:=((hk1.trans hk2).trans hk3).cf (n:=wr.heap.size+1) (by simp)
          clear c2 f2
          go_wp2_with fail
          refine(HP _ d n m _ (HD.out _ ((((hk.alloc _).trans hk1).trans hk2).trans hk3)) hlt2 mB).mono ?_;rintro e w4 ⟨rfl,hk4⟩
          rw[he'.out]
          go_wp2_with fail
          go_roundw
          case rel=>exact⟨m+1,by omega,by go_num,by rw[c1'.out];rfl,by rw[D9.out];go_num,(((hk.alloc _).trans hk1).trans hk2).trans (hk3.trans hk4),(((hB.alloc _).kp hk1).kp hk2).kp (hk3.trans hk4)⟩
          case measure=>simp[intOf]<;>omega
         ·rw[if_pos (by simp[ha,he])]at c1
          rw[if_neg (by simp[he])]at c2
          have c1':=Lib.hid c1
          have D9:=Lib.hid c2
          have he':=Lib.hid he
          clear c1 c2 ha he
          go_wp2_with fail
          refine(Dz _ d n m _ (HD.out _ (hk.alloc _)) hlt2 mB).mono ?_;rintro e w1 ⟨rfl,hk1⟩
          obtain⟨cc,cf⟩:=hk1.cf (n:=wr.heap.size+1) (by simp)
          go_wp2_with fail
          refine(HP _ d n m _ (HD.out _ ((hk.alloc _).trans hk1)) hlt2 mB).mono ?_;rintro e w2 ⟨rfl,hk2⟩
          obtain⟨c2,f2⟩:=(hk1.trans hk2).cf (n:=wr.heap.size+1) (by simp)
          clear cc cf
          rw[he'.out]
          go_wp2_with fail
          refine(Dz _ d n m _ (HD.out _ (((hk.alloc _).trans hk1).trans hk2)) hlt2 mB).mono ?_;rintro e w3 ⟨rfl,hk3⟩
          obtain⟨c3,f3⟩:=((hk1.trans hk2).trans hk3).cf (n:=wr.heap.size+1) (by simp)
          clear c2 f2
          go_wp2_with fail
          refine(HP _ d n m _ (HD.out _ ((((hk.alloc _).trans hk1).trans hk2).trans hk3)) hlt2 mB).mono ?_;rintro e w4 ⟨rfl,hk4⟩
          rw[he'.out]
          go_wp2_with fail
          go_roundw
          case rel=>exact⟨m+1,by omega,by go_num,by rw[c1'.out];go_num,by rw[D9.out];rfl,(((hk.alloc _).trans hk1).trans hk2).trans (hk3.trans hk4),(((hB.alloc _).kp hk1).kp hk2).kp (hk3.trans hk4)⟩
          case measure=>simp[intOf]<;>omega
        ·have t1:((aL d n m==(a:Int)):Bool)=false:=by rw[beq_eq_false_iff_ne];exact ha
         rw[if_neg (by simp[ha])]at c1 c2
         have c1':=Lib.hid c1
         have D9:=Lib.hid c2
         clear c1 c2 ha
         go_wp2_with fail
         refine(Dz _ d n m _ (HD.out _ (hk.alloc _)) hlt2 mB).mono ?_;rintro e w1 ⟨rfl,hk1⟩
         obtain⟨cc,cf⟩:=hk1.cf (n:=wr.heap.size+1) (by simp)
         go_wp2_with fail
         refine(Dz _ d n m _ (HD.out _ ((hk.alloc _).trans hk1)) hlt2 mB).mono ?_;rintro e w2 ⟨rfl,hk2⟩
         go_wp2_with fail
         go_roundw
         case rel=>exact⟨m+1,by omega,by go_num,by rw[c1'.out];rfl,by rw[D9.out];rfl,((hk.alloc _).trans hk1).trans hk2,((hB.alloc _).kp hk1).kp hk2⟩
         case measure=>simp[intOf]<;>omega
       ·obtain rfl:m=4:=by omega
        go_wp2_with fail
        go_roundw
        case rel=>exact⟨n+1,by omega,by go_num,rfl,rfl,hk,hB⟩
        case measure=>simp[intOf]<;>omega
     ·obtain rfl:n=d.ae.length:=by omega
      by_cases hin:eU d a false (4*d.ae.length)=1
      ·have i1:((((eU d a false (4*d.ae.length):Nat):Int)!=1):Bool)=false:=by simp only[bne_eq_false_iff_eq];omega
       by_cases hout:eU d a true (4*d.ae.length)=1
       ·have i2:((((eU d a true (4*d.ae.length):Nat):Int)!=1):Bool)=false:=by simp only[bne_eq_false_iff_eq];omega
        have hao:Hid (oL d a=true):=by rw[Hid];unfold oL;rw[hin,hout];rfl
        clear hin hout
        go_wp2_with fail
        go_roundw
        case rel=>exact⟨a+1,by omega,by omega,by go_num,fun a' h1 h2=>by
         rcases Nat.lt_or_ge a' a with h|h
         ·exact hok.out a' h1 h
         ·obtain rfl:a'=a:=by omega
          exact hao.out,hk,hB⟩
        case measure=>simp[intOf]<;>omega
       ·have i2:((((eU d a true (4*d.ae.length):Nat):Int)!=1):Bool)=true:=by simp only[bne_iff_ne,ne_eq];omega
        have hao:Hid (fp d=false):=TI ha0 hlt (by unfold oL;rw[hin];simp[hout])
        clear hin hout
        go_wp2_with fail
        go_ret
        exact⟨by rw[hao.out];rfl,hk⟩
      ·have i1:((((eU d a false (4*d.ae.length):Nat):Int)!=1):Bool)=true:=by simp only[bne_iff_ne,ne_eq];omega
       have hao:Hid (fp d=false):=TI ha0 hlt (by unfold oL;simp[hin])
       clear hin
       go_wp2_with fail
       go_ret
       exact⟨by rw[hao.out];rfl,hk⟩
   ·have hao:Hid (fp d=true):=acz Hsz.out fun a' h1 h2=>hok.out a' h1 (by omega)
    go_wp2_with fail
    go_ret
    exact⟨by rw[hao.out];rfl,hk⟩
theorem aai(v:Value)(d:Dg)(w:World)(hd:pS w w.heap.size v d):Calls Tryz.prog 15 #[v] w (CO (fp d) w):=by
 by_cases h:d.ae.length<=16/\0<=d.loops/\d.loops<=16/\¬(d.ae.length=0/\d.loops=0)
 ·exact aae v d w hd h
 ·rw[Sr h];exact aad v d w hd h
end Go.Proofs.YtcohmplpgcddiaaGreatDoor
namespace Go.Proofs.YtcohmplpgcddiaaGreatDoor
open Go.ChangeShapes Go.WideShapes Go.ChangeAt Go.RowKit
def lastP(d:Dg)(a:Int)(back:Bool):Nat->Nat×Nat
 |0=>(0,0)
 |J+1=>if jh d a back J=true then(J/4,J%4)else lastP d a back J
theorem abK{d:Dg}{a:Int}{back:Bool}{J:Nat}(h:eU d a back J=0):∀j,j<J->jh d a back j=false:=by
 intro j hj
 unfold eU at h
 rw[List.countP_eq_zero]at h
 have:=h j (by simpa using hj)
 simpa using this
theorem Ie{d:Dg}{a:Int}{back:Bool}{J:Nat}(h:eU d a back J=1):
  ∃j,j<J/\jh d a back j=true/\(∀i,i<J->jh d a back i=true->i=j)/\lastP d a back J=(j/4,j%4):=by
 induction J with
 |zero=>simp[eU]at h
 |succ J ih=>
  rw[xF]at h
  by_cases hJ:jh d a back J=true
  ·rw[if_pos hJ]at h
   have h0:=abK (show eU d a back J=0 by omega)
   refine⟨J,by omega,hJ,fun i hi hi'=>?_,by unfold lastP;rw[if_pos hJ]⟩
   rcases Nat.lt_or_ge i J with h1|h1
   ·rw[h0 i h1]at hi';cases hi'
   ·omega
  ·rw[if_neg hJ]at h
   obtain⟨j,h1,h2,h3,h4⟩:=ih (by omega)
   refine⟨j,by omega,h2,fun i hi hi'=>?_,by unfold lastP;rw[if_neg hJ];exact h4⟩
   rcases Nat.lt_or_ge i J with h5|h5
   ·exact h3 i h5 hi'
   ·obtain rfl:i=J:=by omega
    exact absurd hi' hJ
theorem Sy{d:Dg}{a:Int}{back:Bool}(h:eU d a back (4*d.ae.length)=1):lastP d a back (4*d.ae.length)=aF d a back:=by
 obtain⟨j,h1,h2,h3,h4⟩:=Ie h
 rw[h4,Lm h1 h2 fun i hi=>by
  cases hq:jh d a back i
  ·rfl
  ·have:=h3 i (by omega) hq
   omega]
def gj(d:Dg)(j:Nat):Int:=aL d (j/4) (j%4)
def wT(d:Dg)(m J:Nat):Nat:=(List.range J).countP fun j=>decide (1<=gj d j/\gj d j<=(m:Int))
theorem aa0(d:Dg)(m J:Nat):wT d (m+1) J=wT d m J+(eU d ((m+1:Nat):Int) false J+eU d ((m+1:Nat):Int) true J):=by
 induction J with
 |zero=>simp[wT,eU]
 |succ J ih=>
  have e:∀m,wT d m (J+1)=wT d m J+if 1<=gj d J/\gj d J<=(m:Int)then 1 else 0:=by
   intro m
   unfold wT
   rw[List.range_succ,List.countP_append,List.countP_singleton]
   simp
  rw[e,e,ih,xF,xF]
  unfold jh
  change _+(if 1<=gj d J/\gj d J<=((m+1:Nat):Int)then 1 else 0)=_
  have h1:aL d (J/4) (J%4)=gj d J:=rfl
  rw[h1]
  by_cases hm:gj d J=((m+1:Nat):Int)
  ·rw[if_pos (by omega),if_neg (by omega)]
   cases bO d (J/4) (J%4)<;>simp[hm]<;>omega
  ·have e2:decide (gj d J=((m+1:Nat):Int))=false:=by simpa using hm
   rw[e2]
   simp only[Bool.false_and,Bool.false_eq_true,if_false]
   by_cases h2:1<=gj d J/\gj d J<=(m:Int)
   ·rw[if_pos (by omega),if_pos h2];omega
   ·rw[if_neg (by omega),if_neg h2];omega
theorem abF{d:Dg}{m:Nat}(h:∀a:Nat,1<=a->a<=m->eU d a false (4*d.ae.length)=1/\eU d a true (4*d.ae.length)=1):wT d m (4*d.ae.length)=2*m:=by
 induction m with
 |zero=>
  unfold wT
  rw[List.countP_eq_zero.2 (by intro j _;simp;omega)]
 |succ m ih=>
  rw[aa0,ih fun a h0 h1=>h a h0 (by omega)]
  have:=h (m+1) (by omega) (by omega)
  omega
def aO(d:Dg):Bool:=(List.range (2*d.ae.length)).all fun a=>oL d ((a+1:Nat):Int)
theorem Eh(d:Dg):fp d=(decide (d.ae.length<=16/\0<=d.loops/\d.loops<=16/\¬(d.ae.length=0/\d.loops=0))&&aO d):=rfl
theorem HT{d:Dg}(h:aO d=true)(a:Nat)(h0:1<=a)(h1:a<=2*d.ae.length):eU d a false (4*d.ae.length)=1/\eU d a true (4*d.ae.length)=1:=by
 have:=List.all_eq_true.1 h (a-1) (by simp;omega)
 rw[show a-1+1=a by omega]at this
 unfold oL at this
 simpa using this
theorem T6{d:Dg}{a:Nat}(h0:1<=a)(h1:a<=2*d.ae.length)(h:oL d a=false):aO d=false:=by
 refine List.all_eq_false.2 ⟨a-1,by simp;omega,?_⟩
 rw[show a-1+1=a by omega,h];simp
theorem SZ{d:Dg}(h2:∀a:Nat,1<=a->a<=2*d.ae.length->oL d a=true):aO d=true:=by
 refine List.all_eq_true.2 fun a ha=>h2 (a+1) (by omega) ?_
 simp at ha
 omega
theorem T4{d:Dg}(h:aO d=true){j:Nat}(hj:j<4*d.ae.length):1<=gj d j/\gj d j<=2*(d.ae.length:Int):=by
 have h1:=abF (m:=2*d.ae.length) (HT h)
 unfold wT at h1
 have h2:(List.range (4*d.ae.length)).countP (fun j=>decide (1<=gj d j/\gj d j<=((2*d.ae.length:Nat):Int)))=(List.range (4*d.ae.length)).length:=by rw[h1];simp;omega
 rw[List.countP_eq_length]at h2
 have:=h2 j (by simpa using hj)
 rw[decide_eq_true_iff]at this
 omega
theorem T5{d:Dg}{j:Nat}(hj:j<4*d.ae.length)(h:¬(1<=gj d j/\gj d j<=2*(d.ae.length:Int))):aO d=false:=by
 cases hm:aO d
 ·rfl
 ·exact absurd (T4 hm hj) h
set_option maxRecDepth 100000 in
set_option maxHeartbeats 1000000 in
theorem Iz(x:Cr)(k:Nat)(w:World)(hk:k<4):Calls Tryz.prog 28 #[D7 x,.int .i64 k] w (Md (dw x k) w):=by
 have hkk:k=0\/k=1\/k=2\/k=3:=by omega
 unfold D7
 obtain⟨a,b,c,d,p⟩:=x
 have i0:∀w,(Instr.index 118 (.agg #[.int .i64 a,.int .i64 b,.int .i64 c,.int .i64 d]) (.int .i64 0)).run Tryz.prog w=.ok (.int .i64 a) w:=fun _=>by kernel_rfl
 have i1:∀w,(Instr.index 118 (.agg #[.int .i64 a,.int .i64 b,.int .i64 c,.int .i64 d]) (.int .i64 1)).run Tryz.prog w=.ok (.int .i64 b) w:=fun _=>by kernel_rfl
 have i2:∀w,(Instr.index 118 (.agg #[.int .i64 a,.int .i64 b,.int .i64 c,.int .i64 d]) (.int .i64 2)).run Tryz.prog w=.ok (.int .i64 c) w:=fun _=>by kernel_rfl
 have i3:∀w,(Instr.index 118 (.agg #[.int .i64 a,.int .i64 b,.int .i64 c,.int .i64 d]) (.int .i64 3)).run Tryz.prog w=.ok (.int .i64 d) w:=fun _=>by kernel_rfl
 rcases hkk with rfl|rfl|rfl|rfl
 all_goals
  go_enter Tryz.func28,Tryz.ntmps28
  go_wp2_with fail
  go_ret
  exact⟨rfl,(Kp.refl _).alloc _⟩
def yB(x:Cr):Nat:=if x.plus=true then 3 else 1
set_option maxHeartbeats 1000000 in
theorem aaX(x:Cr)(w:World):Calls Tryz.prog 110 #[D7 x] w (Md (yB x) w):=by
 obtain⟨a,b,c,d,p⟩:=x
 unfold D7 yB
 cases p
 all_goals
  go_enter Tryz.func110,Tryz.ntmps110
  go_wp2_with fail
  go_ret
  exact⟨rfl,(Kp.refl _).alloc _⟩
set_option maxHeartbeats 1000000 in
theorem SS(x:Cr)(k:Nat)(w:World)(hk:k<4):Calls Tryz.prog 81 #[D7 x,.int .i64 k] w (CO (kS x k) w):=by
 have hkk:k=0\/k=1\/k=2\/k=3:=by omega
 have ho:=Lib.hid fun w'=>aaX x w'
 obtain⟨a,b,c,d,p⟩:=x
 unfold D7 yB at*
 rcases hkk with rfl|rfl|rfl|rfl
 ·go_enter Tryz.func81,Tryz.ntmps81
  go_wp2_with fail
  go_ret
  exact⟨rfl,(Kp.refl _).alloc _⟩
 all_goals
  cases p
  all_goals
   go_enter Tryz.func81,Tryz.ntmps81
   go_wp2_with fail
   refine(ho.out _).mono ?_;rintro e w1 ⟨rfl,hk1⟩
   go_wp2_with fail
   go_ret
   exact⟨rfl,Kp.trans ((Kp.refl _).alloc _) hk1⟩
end Go.Proofs.YtcohmplpgcddiaaGreatDoor
namespace Go.Proofs.YtcohmplpgcddiaaGreatDoor
open Go.ChangeShapes Go.WideShapes Go.ChangeAt Go.RowKit
def aet(base:Nat)(xs:List Cr)(w:World)(e:Ending)(w':World):Prop:=∃A c,e=.returned (.slice A xs.length c)/\Ow nX 68 w' base (.slice A xs.length c) xs/\Kp w w'
set_option maxHeartbeats 1000000 in
theorem acS(A:Option Addr)(c:Nat)(xs:List Cr)(w:World)(hr:Rd nX w w.heap.size A xs):
  Calls Tryz.prog 80 #[.slice A xs.length c] w (aet w.heap.size xs w):=by
 have hnl:=fun(w:World) (a:Option Addr) (n c:Nat)=>Lib.run_eql_slice_nil (P:=Tryz.prog) w 22 68 a n c 0 0 cE
 cases A with
 |none=>
  have h0:xs.length=0:=by
   rcases Nat.eq_zero_or_pos xs.length with h|h
   ·exact h
   ·obtain⟨b,off,h,_⟩:=Sl.at_ hr h
    cases h
  have hx:xs=[]:=List.eq_nil_of_length_eq_zero h0
  subst hx
  go_enter Tryz.func80,Tryz.ntmps80
  go_wp2_with fail
  go_ret
  exact⟨none,0,rfl,Ow.eO,Kp.refl _⟩
 |some ad=>
  go_enter Tryz.func80,Tryz.ntmps80
  go_wp2_with (at_builtin;refine aax aim rfl _ _ rfl (World.ownsRow_made w #[] 0 (Nat.le_refl _) (by unfold maxLen;omega) rfl) rfl rfl (Rd.kp hr ((Kp.refl _).alloc _)) (afz xs) (by rw[Nat.zero_add];exact hr.room) (by simp) ?_;intro v' w1 ho hg _)
  go_ret
  have ho':Ow nX 68 w1 w.heap.size v' xs:=by
   unfold Ow
   rw[Nat.zero_add,List.nil_append]at ho
   exact ho
  obtain⟨A',c',rfl,_⟩:=ho'.sl
  exact⟨A',c',rfl,ho',((Kp.refl w).alloc _).grown hg (fun k hk=>by simp[Value.ownBlock]at hk;omega)⟩
def uO(x:Nat×Nat):List Value:=[.int .i64 x.1,.int .i64 x.2]
def yO:oK (Nat×Nat):=⟨uO,2,16,fun _=>rfl⟩
def aI(d:Dg)(back:Bool)(J:Nat):List (Nat×Nat):=(List.range (2*d.ae.length+1)).map fun a:Nat=>lastP d (a:Int) back J
def iO(d:Dg)(back:Bool)(J:Nat):List Int:=(List.range (2*d.ae.length+1)).map fun a:Nat=>((eU d (a:Int) back J:Nat):Int)
theorem K5(d:Dg)(a:Int)(back:Bool)(J:Nat):lastP d a back (J+1)=if jh d a back J=true then(J/4,J%4)else lastP d a back J:=rfl
theorem jR(d:Dg)(back:Bool)(J:Nat):(aI d back J).length=2*d.ae.length+1:=by simp[aI]
theorem sS(d:Dg)(back:Bool)(J:Nat):(iO d back J).length=2*d.ae.length+1:=by simp[iO]
theorem xE{d:Dg}{back:Bool}{J a:Nat}(h:a<2*d.ae.length+1):ga (aI d back J) a=lastP d (a:Int) back J:=by
 rw[cZ (by rw[jR];exact h)];simp[aI]
theorem sQ{d:Dg}{back:Bool}{J a:Nat}(h:a<2*d.ae.length+1):gi (iO d back J) a=(eU d (a:Int) back J:Nat):=by
 rw[NR (by rw[sS];exact h)];simp[iO]
theorem Sg(d:Dg)(back:Bool):aI d back 0=List.replicate (2*d.ae.length+1) (0,0):=by
 simp only[aI,lastP,List.map_const',List.length_range]
theorem SU(d:Dg)(back:Bool):iO d back 0=List.replicate (2*d.ae.length+1) 0:=by
 simp[iO,eU,List.map_const']
theorem TR{d:Dg}{a J:Nat}{back:Bool}(h:gj d J=a)(a':Nat):jh d (a':Int) back J=(decide (a'=a)&&(bO d (J/4) (J%4)!=back)):=by
 unfold jh
 have h1:aL d (J/4) (J%4)=(a:Int):=h
 rw[h1]
 congr 1
 simp only[decide_eq_decide]
 omega
theorem Tt{d:Dg}{back:Bool}{J a:Nat}(h:gj d J=a)(he:bO d (J/4) (J%4)≠back):aI d back (J+1)=(aI d back J).set a (J/4,J%4):=by
 apply Ag
 ·rw[List.length_set,jR,jR]
 ·intro i hi
  rw[jR]at hi
  have e:=TR (back:=back) h i
  by_cases ha:a<(aI d back J).length
  ·rw[eX _ _ _ _ ha,xE hi,xE hi,K5,e]
   by_cases hi':a=i
   ·subst hi';simp[he]
   ·have:¬i=a:=fun h=>hi' h.symm
    simp[hi',this]
  ·rw[List.set_eq_of_length_le (by omega),xE hi,xE hi]
   rw[jR]at ha
   rw[K5,e]
   have:¬i=a:=by omega
   simp[this]
theorem Si{d:Dg}{back:Bool}{J:Nat}(he:bO d (J/4) (J%4)=back):aI d back (J+1)=aI d back J:=by
 apply Ag
 ·rw[jR,jR]
 ·intro i hi
  rw[jR]at hi
  rw[xE hi,xE hi,K5]
  unfold jh
  simp[he]
theorem TW{d:Dg}{back:Bool}{J a:Nat}(h:gj d J=a)(he:bO d (J/4) (J%4)≠back):iO d back (J+1)=(iO d back J).set a (gi (iO d back J) a+1):=by
 apply VE
 ·rw[List.length_set,sS,sS]
 ·intro i hi
  rw[sS]at hi
  have e:=TR (back:=back) h i
  by_cases ha:a<(iO d back J).length
  ·rw[aft _ _ _ _ ha,sQ hi,sQ hi,xF,e]
   by_cases hi':a=i
   ·subst hi';rw[sQ hi];simp[he]
   ·have:¬i=a:=fun h=>hi' h.symm
    simp[hi',this]
  ·rw[List.set_eq_of_length_le (by omega),sQ hi,sQ hi,xF,e]
   rw[sS]at ha
   have:¬i=a:=by omega
   simp[this]
theorem SV{d:Dg}{back:Bool}{J:Nat}(he:bO d (J/4) (J%4)=back):iO d back (J+1)=iO d back J:=by
 apply VE
 ·rw[sS,sS]
 ·intro i hi
  rw[sS]at hi
  rw[sQ hi,sQ hi,xF]
  unfold jh
  simp[he]
end Go.Proofs.YtcohmplpgcddiaaGreatDoor
