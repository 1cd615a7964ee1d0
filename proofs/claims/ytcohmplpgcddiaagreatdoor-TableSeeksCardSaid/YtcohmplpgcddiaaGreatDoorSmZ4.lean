/- Part 4 of the proof of the law TableSeeks: the walks through its functions and the plain laws that they need. -/
import Derived.Test.YtcohmplpgcddiaaGreatDoorSmZ3
import Derived.Sort.OwnSortedInts
import Derived.Shelf.Sort.Plain
import Derived.Shelf.Slices.In.SortNone
import Derived.Maps.RangeRun
set_option linter.unusedSimpArgs false
set_option linter.unusedVariables false
noncomputable section
namespace Go.Proofs.YtcohmplpgcddiaaGreatDoor
open Go.ChangeShapes Go.WideShapes Go.ChangeAt Go.RowKit
def md(x:Int):Int:=x%18446744073709551616
theorem VU{x y:Int}:wr x=wr y<->md x=md y:=by unfold wr md;rw[IntKind.wrap_i64,IntKind.wrap_i64];omega
theorem Wp(x:Int):md (wr x)=md x:=by unfold wr md;rw[IntKind.wrap_i64];omega
theorem ac4(x:Int):wr (wr x)=wr x:=VU.2 (Wp x)
theorem Mx{a b c d:Int}(h:md a=md b)(k:md c=md d):md (a+c)=md (b+d):=by
 unfold md at*;omega
theorem ae3{a b:Int}(h:md a=md b):md (-a)=md (-b):=by
 unfold md at*;omega
theorem ae4{a b c d:Int}(h:md a=md b)(k:md c=md d):md (a*c)=md (b*d):=by
 unfold md at*
 rw[Int.mul_emod,h,k,<-Int.mul_emod]
theorem Ua(x y:Int):wr (x+wr y)=wr (x+y):=VU.2 (Mx rfl (Wp y))
abbrev kg:=List (Int×Int)
def ev:kg->(Int->Int)->Int
 |[],_=>0
 |p::r,φ=>p.2*φ (wr p.1)+ev r φ
theorem Bw(P Q:kg)(φ:Int->Int):ev (P++Q) φ=ev P φ+ev Q φ:=by
 induction P with
 |nil=>simp[ev]
 |cons p P ih=>simp only[List.cons_append,ev,ih];omega
theorem VH(P:kg)(φ ψ:Int->Int):ev P (fun x=>φ x+ψ x)=ev P φ+ev P ψ:=by
 induction P with
 |nil=>rfl
 |cons p P ih=>simp only[ev,ih,Int.mul_add];omega
theorem UT(P:kg):ev P (fun _=>0)=0:=by
 induction P with
 |nil=>rfl
 |cons p P ih=>simp only[ev,ih];omega
theorem afy(P:kg)(c:Int)(φ:Int->Int):ev P (fun x=>c*φ x)=c*ev P φ:=by
 induction P with
 |nil=>simp[ev]
 |cons p P ih=>simp only[ev,ih,Int.mul_add,Int.mul_left_comm]
theorem ad0(P Q:kg)(ψ:Int->Int->Int):ev P (fun x=>ev Q (ψ x))=ev Q (fun y=>ev P (fun x=>ψ x y)):=by
 induction P with
 |nil=>simp only[ev];rw[UT]
 |cons p P ih=>simp only[ev];rw[ih,VH,afy]
theorem ad1(P:kg){φ ψ:Int->Int}(h:∀x,md (φ x)=md (ψ x)):md (ev P φ)=md (ev P ψ):=by
 induction P with
 |nil=>rfl
 |cons p P ih=>exact Mx (ae4 rfl (h _)) ih
theorem VG(P:kg)(f:Int×Int->Int×Int)(c:Int)(g:Int->Int)(hf:∀p,(f p).2=p.2*c)(hg:∀p:Int×Int,wr (f p).1=g (wr p.1))(φ:Int->Int):ev (P.map f) φ=c*ev P (fun x=>φ (g x)):=by
 induction P with
 |nil=>simp[ev]
 |cons p P ih=>simp only[List.map_cons,ev,ih,hf,hg,Int.mul_add];rw[Int.mul_comm p.2 c,Int.mul_assoc]
def eqv(P Q:kg):Prop:=∀φ,md (ev P φ)=md (ev Q φ)
theorem eqv.refl(P:kg):eqv P P:=fun _=>rfl
theorem eqv.symm{P Q:kg}(h:eqv P Q):eqv Q P:=fun φ=>(h φ).symm
theorem eqv.trans{P Q R:kg}(h:eqv P Q)(k:eqv Q R):eqv P R:=fun φ=>(h φ).trans (k φ)
def FJ(P:kg):kg:=P.map fun p=>(p.1,-p.2)
theorem UU(P:kg)(φ:Int->Int):ev (FJ P) φ=-ev P φ:=by
 have:=VG P (fun p=>(p.1,-p.2)) (-1) id (fun p=>by simp only;omega) (fun p=>rfl) φ
 unfold FJ
 rw[this]
 show -1*ev P φ=_
 omega
def Fk(P Q:kg):kg:=P.flatMap fun p=>Q.map fun q=>(p.1+q.1,p.2*q.2)
theorem zh(P Q:kg)(φ:Int->Int):ev (Fk P Q) φ=ev P (fun x=>ev Q (fun y=>φ (wr (x+y)))):=by
 induction P with
 |nil=>rfl
 |cons p P ih=>
  have e:∀Q:kg,ev (Q.map fun q=>(p.1+q.1,p.2*q.2)) φ=p.2*ev Q (fun y=>φ (wr (wr p.1+y))):=fun Q=>by
   have:=VG Q (fun q=>(p.1+q.1,p.2*q.2)) p.2 (fun y=>wr (wr p.1+y)) (fun q=>Int.mul_comm _ _) (fun q=>by simp only;rw[Ua,VT]) φ
   exact this
  show ev ((Q.map fun q=>(p.1+q.1,p.2*q.2))++Fk P Q) φ=_
  rw[Bw,ih,e]
  rfl
theorem aa3{P P' Q Q':kg}(h:eqv P P')(k:eqv Q Q'):eqv (P++Q) (P'++Q'):=fun φ=>by
 rw[Bw,Bw];exact Mx (h φ) (k φ)
theorem acL{P P' Q Q':kg}(h:eqv P P')(k:eqv Q Q'):eqv (Fk P Q) (Fk P' Q'):=fun φ=>by
 rw[zh,zh]
 exact(h _).trans (ad1 _ fun x=>k _)
theorem ad2{P P':kg}(h:eqv P P'):eqv (FJ P) (FJ P'):=fun φ=>by
 rw[UU,UU];exact ae3 (h φ)
def wZ:Setoid kg:=⟨eqv,eqv.refl,eqv.symm,eqv.trans⟩
def bV:=Quotient wZ
def mk(P:kg):bV:=Quotient.mk wZ P
theorem mk_eq{P Q:kg}(h:eqv P Q):mk P=mk Q:=Quotient.sound (s:=wZ) h
theorem bV.ind{p:bV->Prop}(h:∀P,p (mk P))(x:bV):p x:=Quotient.ind (s:=wZ) h x
def bV.add(x y:bV):bV:=Quotient.liftOn₂ (s₁:=wZ) (s₂:=wZ) x y (fun P Q=>mk (P++Q)) fun _ _ _ _ h k=>mk_eq (aa3 h k)
def bV.mul(x y:bV):bV:=Quotient.liftOn₂ (s₁:=wZ) (s₂:=wZ) x y (fun P Q=>mk (Fk P Q)) fun _ _ _ _ h k=>mk_eq (acL h k)
def bV.neg(x:bV):bV:=Quotient.liftOn (s:=wZ) x (fun P=>mk (FJ P)) fun _ _ h=>mk_eq (ad2 h)
instance :Add bV:=⟨bV.add⟩
instance :Mul bV:=⟨bV.mul⟩
instance :Neg bV:=⟨bV.neg⟩
def bV.o:bV:=mk []
def bV.i:bV:=mk [(0,1)]
def mono(e c:Int):bV:=mk [(e,c)]
theorem bV.add_comm(x y:bV):x+y=y+x:=by
 induction x using bV.ind with|_ P=>
 induction y using bV.ind with|_ Q=>
 exact mk_eq fun φ=>by rw[Bw,Bw,Int.add_comm]
theorem bV.add_assoc(x y z:bV):x+y+z=x+(y+z):=by
 induction x using bV.ind with|_ P=>
 induction y using bV.ind with|_ Q=>
 induction z using bV.ind with|_ R=>
 exact mk_eq fun φ=>by simp only[Bw,Int.add_assoc]
theorem bV.add_zero(x:bV):x+bV.o=x:=by
 induction x using bV.ind with|_ P=>
 exact mk_eq fun φ=>by rw[List.append_nil]
theorem bV.zero_add(x:bV):bV.o+x=x:=by rw[bV.add_comm,bV.add_zero]
theorem bV.mul_comm(x y:bV):x*y=y*x:=by
 induction x using bV.ind with|_ P=>
 induction y using bV.ind with|_ Q=>
 exact mk_eq fun φ=>by rw[zh,zh,ad0];simp only[Int.add_comm]
theorem bV.mul_assoc(x y z:bV):x*y*z=x*(y*z):=by
 induction x using bV.ind with|_ P=>
 induction y using bV.ind with|_ Q=>
 induction z using bV.ind with|_ R=>
 exact mk_eq fun φ=>by simp only[zh,VT,Ua,Int.add_assoc]
theorem bV.mul_add(x y z:bV):x*(y+z)=x*y+x*z:=by
 induction x using bV.ind with|_ P=>
 induction y using bV.ind with|_ Q=>
 induction z using bV.ind with|_ R=>
 exact mk_eq fun φ=>by simp only[zh,Bw,VH]
theorem bV.add_mul(x y z:bV):(x+y)*z=x*z+y*z:=by rw[bV.mul_comm,bV.mul_add,bV.mul_comm z x,bV.mul_comm z y]
theorem bV.mul_zero(x:bV):x*bV.o=bV.o:=by
 induction x using bV.ind with|_ P=>
 exact mk_eq fun φ=>by rw[zh];simp only[ev];rw[UT]
theorem bV.zero_mul(x:bV):bV.o*x=bV.o:=by rw[bV.mul_comm,bV.mul_zero]
theorem bV.mul_one(x:bV):x*bV.i=x:=by
 induction x using bV.ind with|_ P=>
 refine mk_eq fun φ=>?_
 rw[zh]
 have e:∀Q:kg,ev Q (fun x=>ev [(0,1)] (fun y=>φ (wr (x+y))))=ev Q φ:=by
  intro Q
  induction Q with
  |nil=>rfl
  |cons q Q ih=>
   have h0:wr 0=0:=afZ (by omega)
   show q.2*(1*φ (wr (wr q.1+wr 0))+0)+_=q.2*φ (wr q.1)+_
   rw[h0,show wr (wr q.1+0)=wr q.1 from by rw[Int.add_zero,ac4],ih,Int.one_mul,Int.add_zero]
 rw[e]
theorem bV.one_mul(x:bV):bV.i*x=x:=by rw[bV.mul_comm,bV.mul_one]
instance :Std.Associative (α:=bV) (·+·):=⟨bV.add_assoc⟩
instance :Std.Commutative (α:=bV) (·+·):=⟨bV.add_comm⟩
instance :Std.Associative (α:=bV) (·*·):=⟨bV.mul_assoc⟩
instance :Std.Commutative (α:=bV) (·*·):=⟨bV.mul_comm⟩
structure Tm where
 e:Int
 c:Int
instance :Inhabited Tm:=⟨⟨0,0⟩⟩
def Can(l:List Tm):Prop:=l.Pairwise (fun s t=>s.e<t.e)/\∀t∈l,t.c≠0/\wr t.c=t.c/\wr t.e=t.e
theorem Can.eO:Can []:=⟨List.Pairwise.nil,by simp⟩
def put:List Tm->Int->Int->List Tm
 |[],e,c=>if c=0 then[]else[⟨e,c⟩]
 |t::l,e,c=>if c=0 then t::l else if t.e<e then t::put l e c else if t.e=e then(if wr (t.c+c)=0 then l else⟨e,wr (t.c+c)⟩::l)else⟨e,c⟩::t::l
end Go.Proofs.YtcohmplpgcddiaaGreatDoor
namespace Go.Proofs.YtcohmplpgcddiaaGreatDoor
section
variable (m : Nat → Nat → bV) (N : Nat)
variable {m N}
end
instance :Inhabited bV:=⟨bV.o⟩
end Go.Proofs.YtcohmplpgcddiaaGreatDoor
namespace Go.Proofs.YtcohmplpgcddiaaGreatDoor
open Go.ChangeShapes Go.WideShapes Go.ChangeAt Go.RowKit Go.Sort
def iy(xs:List Int):List Int:=xs.mergeSort fun x y=>decide (x<=y)
theorem Lt(xs:List Int):(iy xs).Perm xs:=List.mergeSort_perm _ _
theorem Ue(xs:List Int):(iy xs).length=xs.length:=(Lt xs).length_eq
theorem yt{xs:List Int}{x:Int}:x∈iy xs<->x∈xs:=(Lt xs).mem_iff
theorem TP(xs:List Int):xs.flatMap aQ.f=xs.map (Value.int .i64):=by
 induction xs with
 |nil=>rfl
 |cons x xs ih=>simp only[List.flatMap_cons,ih,List.map_cons];rfl
theorem SH.sorted{w:World}{M:Hp}{X:Fr}{g cap n:Nat}{xs ys:List Int}{os:Array Obj}(S:SH w M X [Rs.row aQ (.slice (some ⟨g,0,none⟩) xs.length cap) xs])(hl:ys.length=xs.length):
  SH (Go.Sort.grow (putRow (Value.int .i64) (Go.Sort.ahead w n) g 0 ys.toArray) os) M X [Rs.row aQ (.slice (some ⟨g,0,none⟩) xs.length cap) ys]:=by
 have hok:lD aQ (.slice (some ⟨g,0,none⟩) xs.length cap) xs (hp w):=S.get (i:=0) rfl
 rcases hok with⟨h1,_⟩|⟨g',cap',cur,h1,h2,h3,h4,h5,h6⟩
 ·cases h1
 cases h1
 have gb:=grownBy_sortedI (w:=w) (g:=g) (n:=n) (os:=os) ys.toArray
 have h5':cur.size=cap:=h5.trans (Nat.mul_one _)
 refine S.step (i:=0) (H':=[Rs.row aQ (.slice (some ⟨g,0,none⟩) xs.length cap) ys]) rfl rfl ⟨gb.os,gb.tape,gb.output,gb.size⟩ (fun b hb hn=>?_) ?_ (fun b hb=>⟨.inl hb,?_⟩)
 ·exact gb.block b hb (fun e=>hn (by injection e with e;subst e;simp[Rs.row,Value.ownBlock]))
 ·refine .inr ⟨g,cap,_,by rw[hl],heap_sortedI _ h2,by rw[hl];exact h3,h4,by simp[putCells,h5'];exact(Nat.mul_one _).symm,?_⟩
  rw[TP,show ys.length*aQ.k=ys.length from Nat.mul_one _]
  exact take_putCellsI cur ys (by omega)
 ·have hg:g<w.heap.size:=kv h2
  have e:b=g:=by simpa[Rs.row,Value.ownBlock]using hb
  subst e
  exact Nat.lt_of_lt_of_le hg gb.size
theorem SH.afp{w:World}{M:Hp}{X:Fr}{g cap:Nat}{xs:List Int}(S:SH w M X [Rs.row aQ (.slice (some ⟨g,0,none⟩) xs.length cap) xs]):Holds (Value.int .i64) w g 0 xs.toArray/\g<w.heap.size:=by
 have hok:lD aQ (.slice (some ⟨g,0,none⟩) xs.length cap) xs (hp w):=S.get (i:=0) rfl
 rcases hok with⟨h1,_⟩|⟨g',cap',cur,h1,h2,h3,h4,h5,h6⟩
 ·cases h1
 cases h1
 refine⟨holds_of_blockI h2 ?_,kv h2⟩
 rw[TP,show xs.length*aQ.k=xs.length from Nat.mul_one _]at h6
 exact h6
theorem aef{P:Program}{ρ:Go.Shelf.Ren}(L:Lays.n189 P ρ){w:World}{M:Hp}{X:Fr}{v:Value}{xs:List Int}(hsz:xs.length<4611686018427387904)(S:SH w M X [Rs.row aQ v xs]):
  C1 P (ρ.f 189) [v] w M X fun u M' r'=>u=.tuple #[]/\M'=M/\r'=Rs.row aQ v (iy xs):=by
 have hok:lD aQ v xs (hp w):=S.get (i:=0) rfl
 rcases hok with⟨h1,h2⟩|⟨g,cap,cur,h1,_⟩
 ·subst h1;subst h2
  refine(Any.slices_Sort_int_none L none 0 w).mono ?_
  rintro e w' ⟨rfl,rfl⟩
  exact⟨_,rfl,M,_,Hp.le_refl _,S,rfl,rfl,by simp[iy]⟩
 ·subst h1
  obtain⟨hH,hb⟩:=S.afp
  refine(Any.slices_Sort_int L g 0 cap xs w hH hb hsz).mono ?_
  rintro e w' ⟨rfl,n,os,rfl⟩
  exact⟨_,rfl,M,_,Hp.le_refl _,S.sorted (Ue xs),rfl,rfl,rfl⟩
end Go.Proofs.YtcohmplpgcddiaaGreatDoor
namespace Go.Proofs.YtcohmplpgcddiaaGreatDoor
open Go.ChangeShapes Go.WideShapes Go.ChangeAt Go.RowKit
open Go.ChangeMaps (setBlock)
theorem rD.mono{κ ε:Type}{kc:κ->Value}{vc:ε->Value}{g:Nat}{es:List (κ×ε)}{N N':Hp}(h:rD kc vc g es N)(k:N.le N'):rD kc vc g es N':=by
 obtain⟨arr,clock,h1,h2,h3⟩:=h
 exact⟨arr,clock,k _ _ h1,h2,h3⟩
def Rs.x5(g clock r:Nat)(seen:Array Nat):Rs:=⟨[r],fun h=>h r=some (.mapIter (some g) clock seen clock),fun h h' hb hk=>by rw[hb r (by simp)];exact hk⟩
section
variable {κ ε : Type}
def xD(kc:κ->Value)(vc:ε->Value)(N:Hp)(g:Nat)(arr:Array MapEntry)(clock:Nat)(es:List (κ×ε)):Prop:=N g=some (.map arr clock)/\arr.toList.map (fun e=>(e.key,e.val))=es.map (fun p=>(kc p.1,vc p.2))/\Ea arr clock
def zO(kc:κ->Value)(vc:ε->Value)(arr:Array MapEntry)(seen:Array Nat)(lf:List (κ×ε)):Prop:=(leftOf arr seen).toList.map (fun e=>(e.key,e.val))=lf.map (fun p=>(kc p.1,vc p.2))
def Lst(kc:κ->Value)(vc:ε->Value)(arr:Array MapEntry)(seen:Array Nat)(k:κ)(v:ε):Prop:=∃(e:MapEntry) (s0:Array Nat),seen=s0.push e.born/\e∈arr.toList/\e.key=kc k/\e.val=vc v
variable {kc : κ → Value} {vc : ε → Value} {N : Hp} {arr : Array MapEntry} {clock g : Nat} {es lf : List (κ × ε)} {seen : Array Nat}
theorem xD.mono{N':Hp}(h:xD kc vc N g arr clock es)(k:N.le N'):xD kc vc N' g arr clock es:=⟨k _ _ h.1,h.2⟩
theorem rD.ajS(h:rD kc vc g es N):∃arr clock,xD kc vc N g arr clock es:=by
 obtain⟨arr,clock,h⟩:=h
 exact⟨arr,clock,h⟩
theorem aaZ(arr:Array MapEntry):leftOf arr #[]=arr:=by unfold leftOf;simp
theorem xD.lft(h:xD kc vc N g arr clock es):zO kc vc arr #[] es:=by unfold zO;rw[aaZ];exact h.2.1
theorem abA(arr:Array MapEntry)(seen:Array Nat)(b:Nat):(leftOf arr (seen.push b)).toList=(leftOf arr seen).toList.filter fun e=>!decide (e.born=b):=by
 unfold leftOf
 rw[Array.toList_filter,Array.toList_filter,List.filter_filter]
 refine List.filter_congr fun x _=>?_
 have e:(seen.push b).contains x.born=(seen.contains x.born||decide (x.born=b)):=by
  rw[Bool.eq_iff_iff]
  simp[Array.mem_push]
 rw[e,Bool.not_or,Bool.and_comm]
theorem filter_one{l:List MapEntry}(hn:(l.map (·.born)).Nodup){e:MapEntry}(he:e∈l):∃a b,l=a++e::b/\(l.filter fun x=>!decide (x.born=e.born))=a++b:=by
 obtain⟨a,b,rfl⟩:=List.append_of_mem he
 refine⟨a,b,rfl,?_⟩
 rw[List.map_append,List.map_cons]at hn
 obtain⟨n1,n2,n3⟩:=List.nodup_append.1 hn
 rw[List.filter_append,List.filter_cons_of_neg (by simp)]
 have h1:(a.filter fun x=>!decide (x.born=e.born))=a:=List.filter_eq_self.2 fun x hx=>by
  have:=n3 x.born (List.mem_map.2 ⟨x,hx,rfl⟩) e.born (by simp)
  simp[this]
 have h2:(b.filter fun x=>!decide (x.born=e.born))=b:=List.filter_eq_self.2 fun x hx=>by
  have:=(List.nodup_cons.1 n2).1
  have hne:x.born≠e.born:=fun e'=>this (by rw[<-e'];exact List.mem_map.2 ⟨x,hx,rfl⟩)
  simp[hne]
 rw[h1,h2]
theorem Sj:∀{a:List MapEntry}{e:MapEntry}{b:List MapEntry}{lf:List (κ×ε)},(a++e::b).map (fun e=>(e.key,e.val))=lf.map (fun p=>(kc p.1,vc p.2))->∃l1 p l2,lf=l1++p::l2/\e.key=kc p.1/\e.val=vc p.2/\(a++b).map (fun e=>(e.key,e.val))=(l1++l2).map (fun p=>(kc p.1,vc p.2))
 |[],e,b,[],h=>by simp at h
 |[],e,b,p::lf,h=>by
  simp only[List.nil_append,List.map_cons,List.cons.injEq,Prod.mk.injEq]at h
  exact⟨[],p,lf,rfl,h.1.1,h.1.2,h.2⟩
 |x::a,e,b,[],h=>by simp at h
 |x::a,e,b,q::lf,h=>by
  simp only[List.cons_append,List.map_cons,List.cons.injEq]at h
  obtain⟨l1,p,l2,rfl,h1,h2,h3⟩:=Sj h.2
  exact⟨q::l1,p,l2,rfl,h1,h2,by simp only[List.cons_append,List.map_cons,h.1,h3]⟩
section
variable {P : Program} {o : Oper} {L : List (Nat × Value)} {w : World} {x : Operand} {T K E : TypeId} {n d r i : Nat} {Kt : List (Nat × Value) → World → Prop} {M : Hp} {X : Fr} {H : List Rs}
theorem abX(hop:o.op=.range T x)(hd:o.dst=some d)(hn:Nat.blt d n=true)(hx:oev L x=some (.map (some g)))(hu:P.underlying T=some (.map K E))(S:SH w M X H)(hg:xD kc vc N g arr clock es)(hN:N.le (hp w))
  (h:∀r w',SH w' M X (Rs.x5 g clock r #[]::H)->Kt ((d,.pointer (some ⟨r,0,none⟩))::L) w'):WO P n o L w Kt:=by
 have hg':w.heap[g]? =some (.map arr clock):=hN _ _ hg.1
 refine bT (v:=.pointer (some ⟨w.heap.size,0,none⟩)) (w':=w.alloc (.mapIter (some g) clock #[] clock)) hd hn ?_ (h _ _ ?_)
 ·intro n c he
  unfold execOp
  simp only[hop,he.eval hx,run_range_map w T K E g arr clock hu hg',Sem.run_bind,Result.andThen_ok,Sem.run_pure]
 ·exact S.cons (BB w _) (BA w _) (heap_alloc_new w _) (fun b hb=>by simp[Rs.x5]at hb;subst hb;rw[wC];omega)
theorem ac5(hop:o.op=.next x false)(hd:o.dst=some d)(hn:Nat.blt d n=true)(hx:oev L x=some (.pointer (some ⟨r,0,none⟩)))(S:SH w M X H)(hi:nth H i=some (Rs.x5 g clock r seen))(hg:xD kc vc N g arr clock es)(hN:N.le (hp w))(hl:zO kc vc arr seen lf)
  (h0:lf=[]->Kt ((d,.tuple [.bool false].toArray)::L) w)
  (h1:∀k v l1 l2 seen' w',lf=l1++(k,v)::l2->zO kc vc arr seen' (l1++l2)->Lst kc vc arr seen' k v->SH w' M X (H.set i (Rs.x5 g clock r seen'))->Kt ((d,.tuple [.bool true,kc k,vc v].toArray)::L) w'):WO P n o L w Kt:=by
 have hg':w.heap[g]? =some (.map arr clock):=hN _ _ hg.1
 have hr:w.heap[r]? =some (.mapIter (some g) clock seen clock):=S.get hi
 rcases run_next_at (P:=P) w o.type r g clock clock seen arr clock hr hg' hg.2.2.2 (Nat.le_refl _)with⟨e0,hrun⟩|⟨e,he,w1,hal,hrun⟩
 ·refine bT (v:=.tuple #[.bool false]) (w':=w) hd hn ?_ (h0 ?_)
  ·intro n c he
   unfold execOp
   simp only[hop,he.eval hx,hrun,Sem.run_bind,Result.andThen_ok,Sem.run_pure]
  ·have:leftOf arr seen=#[]:=Array.eq_empty_of_size_eq_zero e0
   unfold zO at hl
   rw[this]at hl
   cases lf with
   |nil=>rfl
   |cons p l=>simp at hl
 ·obtain⟨hem,_⟩:=mem_left he
  have hsub:((leftOf arr seen).toList.map (·.born)).Nodup:=by
   unfold leftOf;rw[Array.toList_filter]
   exact List.Nodup.sublist (List.Sublist.map _ List.filter_sublist) hg.2.2.1
  obtain⟨a,b,hab,hf⟩:=filter_one hsub he
  unfold zO at hl
  rw[hab]at hl
  obtain⟨l1,p,l2,hlf,hk,hv,hl'⟩:=Sj hl
  have hrun':(Instr.next (.pointer (some ⟨r,0,none⟩)) false o.type).run P w=.ok (.tuple [.bool true,kc p.1,vc p.2].toArray) (setBlock w1 r (.mapIter (some g) clock (seen.push e.born) clock)):=by rw[hrun,hk,hv]
  have hr1:w1.heap[r]? =some (.mapIter (some g) clock seen clock):=by rcases hal with rfl|rfl<;>exact hr
  have qu:=Go.MapKept.heap_set (o':=.mapIter (some g) clock (seen.push e.born) clock) hr1
  have agX:ku w w1:=by rcases hal with rfl|rfl<;>exact⟨rfl,rfl,rfl,Nat.le_refl _⟩
  have hheap:w1.heap=w.heap:=by rcases hal with rfl|rfl<;>rfl
  have hsz:(setBlock w1 r (.mapIter (some g) clock (seen.push e.born) clock)).heap.size=w1.heap.size:=by simp[setBlock]
  refine bT (v:=.tuple [.bool true,kc p.1,vc p.2].toArray) (w':=setBlock w1 r (.mapIter (some g) clock (seen.push e.born) clock)) hd hn ?_ (h1 p.1 p.2 l1 l2 (seen.push e.born) _ hlf ?_ ⟨e,seen,rfl,hem,hk,hv⟩ ?_)
  ·intro n c he
   unfold execOp
   simp only[hop,he.eval hx,hrun',Sem.run_bind,Result.andThen_ok,Sem.run_pure]
  ·unfold zO
   rw[abA,hf]
   exact hl'
  ·refine S.step hi rfl (agX.trans ⟨rfl,rfl,rfl,by rw[hsz];exact Nat.le_refl _⟩) (fun b _ hb=>?_) qu.1 (fun b hb=>⟨.inl hb,?_⟩)
   ·have hne:b≠r:=by simpa[Rs.x5]using hb
    show(setBlock w1 r _).heap[b]? =w.heap[b]?
    exact(qu.2 b hne).trans (by rw[hheap])
   ·simp[Rs.x5]at hb
    subst hb
    rw[hsz,hheap]
    exact kv hr
theorem abq(hop:o.op=.entry x)(hx:oev L x=some (.pointer (some ⟨r,0,none⟩)))(S:SH w M X H)(hi:nth H i=some (Rs.x5 g clock r seen))(hg:xD kc vc N g arr clock es)(hN:N.le (hp w)){k:κ}{v:ε}(hl:Lst kc vc arr seen k v):Run P o L w (.tuple [kc k,vc v].toArray) w:=by
 have hg':w.heap[g]? =some (.map arr clock):=hN _ _ hg.1
 obtain⟨e,s0,rfl,he,hk,hv⟩:=hl
 have hr:w.heap[r]? =some (.mapIter (some g) clock (s0.push e.born) clock):=S.get hi
 have hrun:=run_entry_at (P:=P) w r g clock s0 arr clock e hr hg' he hg.2.2.1
 rw[hk,hv]at hrun
 intro n c he
 unfold execOp
 simp only[hop,he.eval hx,hrun,Sem.run_bind,Result.andThen_ok,Sem.run_pure]
theorem SH.aeR{H':List Rs}(S:SH w M X H)(hi:nth H i=some (Rs.mp kc vc g es))(hH:H.set i Rs.emp=H'):∃M',M.le M'/\SH w M' X H'/\rD kc vc g es M':=by
 obtain⟨h1,h2,h3⟩:=S.Ko hi hH
 have h4:rD kc vc g es (hp w):=S.get hi
 obtain⟨arr,clock,e,h5⟩:=h4
 exact⟨_,h1,h2,arr,clock,(h3 g (by simp[Rs.mp])).trans e,h5⟩
end
end
section
variable {P : Program} {o : Oper} {L : List (Nat × Value)} {w : World} {x y : Operand} {t t' : TypeId} {a b : Int}
end
end Go.Proofs.YtcohmplpgcddiaaGreatDoor
namespace Go.Proofs.YtcohmplpgcddiaaGreatDoor
open Go.ChangeShapes Go.WideShapes Go.ChangeAt Go.RowKit
def Bd(l:List Tm)(B:Nat):Prop:=∀t∈l,-(B:Int)<=t.e/\t.e<=B
theorem Bd.mono{l:List Tm}{B C:Nat}(h:Bd l B)(k:B<=C):Bd l C:=fun t ht=>by have:=h t ht;omega
def DL(es:List (Int×Int))(B:Nat):Prop:=(es.map Prod.fst).Nodup/\∀q∈es,(-(B:Int)<=q.1/\q.1<=B)/\wr q.2=q.2
theorem DL.eO(B:Nat):DL [] B:=⟨by simp,by simp⟩
theorem DL.mono{es:List (Int×Int)}{B C:Nat}(h:DL es B)(k:B<=C):DL es C:=⟨h.1,fun q hq=>by have:=h.2 q hq;exact⟨by omega,this.2⟩⟩
def Wk(N:Hp)(g:Nat)(B:Nat)(p:bV):Prop:=∃es,rD (Value.int .i64) (Value.int .i64) g es N/\DL es B/\mk es=p
theorem Wk.mono{N N':Hp}{g B:Nat}{p:bV}(h:Wk N g B p)(k:N.le N'):Wk N' g B p:=by
 obtain⟨es,h1,h2⟩:=h
 exact⟨es,h1.mono k,h2⟩
def Wks(bf:Nat->Nat)(N:Hp)(gs:List (Option Nat))(ps:List (Option bV)):Prop:=gs.length=ps.length/\∀i,i<gs.length->match ga ps i with
 |some p=>∃g,ga gs i=some g/\Wk N g (bf i) p
 |none=>ga gs i=none
section
variable {bf : Nat → Nat} {N N' : Hp} {gs : List (Option Nat)} {ps : List (Option bV)}
theorem Wks.mono(h:Wks bf N gs ps)(k:N.le N'):Wks bf N' gs ps:=⟨h.1,fun i hi=>by
 have:=h.2 i hi
 split at this
 ·obtain⟨g,h1,h2⟩:=this
  exact⟨g,h1,h2.mono k⟩
 ·exact this⟩
theorem Wks.eO(bf:Nat->Nat)(N:Hp):Wks bf N [] []:=⟨rfl,fun i hi=>by simp at hi⟩
end
def Gj(bf:Nat->Nat)(N:Hp)(Cn:List (List (Option Nat)))(dD:List (List (Option bV))):Prop:=Cn.length=dD.length/\∀i,i<Cn.length->Wks bf N (ga Cn i) (ga dD i)
section
variable {bf : Nat → Nat} {N N' : Hp} {Cn : List (List (Option Nat))} {dD : List (List (Option bV))}
theorem Gj.mono(h:Gj bf N Cn dD)(k:N.le N'):Gj bf N' Cn dD:=⟨h.1,fun i hi=>(h.2 i hi).mono k⟩
theorem Gj.eO(bf:Nat->Nat)(N:Hp):Gj bf N [] []:=⟨rfl,fun i hi=>by simp at hi⟩
end
end Go.Proofs.YtcohmplpgcddiaaGreatDoor
namespace Go.Proofs.YtcohmplpgcddiaaGreatDoor
open Go.ChangeShapes Go.WideShapes Go.ChangeAt Go.RowKit
structure Da where
 a:Int
 b:Bool
instance :Inhabited Da:=⟨⟨0,false⟩⟩
instance :DecidableEq Da:=fun x y=>decidable_of_iff (x.a=y.a/\x.b=y.b) ⟨fun h=>by cases x;cases y;simp at h;simp[h],fun h=>by rw[h];exact⟨rfl,rfl⟩⟩
def D6(x:Da):List Value:=[.int .i64 x.a,.bool x.b]
def ib:Cd Da:=⟨D6,2,16,33,⟨0,false⟩,fun _=>rfl,by
 intro x u hu
 simp[D6]at hu
 rcases hu with rfl|rfl<;>rfl⟩
def okD(d:Dg)(x:Da):Prop:=1<=x.a/\x.a<=2*(d.ae.length:Int)
def jQ(d:Dg)(x:Da):Da:=⟨aL d (aF d x.a x.b).1 (((aF d x.a x.b).2+3)%4),bO d (aF d x.a x.b).1 (((aF d x.a x.b).2+3)%4)⟩
theorem ey{d:Dg}(h:aO d=true){i k:Nat}(hi:i<d.ae.length)(hk:k<4):1<=aL d i k/\aL d i k<=2*(d.ae.length:Int):=by
 have:=T4 h (j:=4*i+k) (by omega)
 unfold gj at this
 rwa [show(4*i+k)/4=i by omega,show(4*i+k)%4=k by omega]at this
theorem fO{d:Dg}(h:aO d=true){a:Int}(ha:1<=a/\a<=2*(d.ae.length:Int))(b:Bool):(aF d a b).1<d.ae.length/\(aF d a b).2<4/\ga (aI d b (4*d.ae.length)) a.toNat=aF d a b/\a.toNat<2*d.ae.length+1/\a=(a.toNat:Int):=by
 have e:a=(a.toNat:Int):=by omega
 obtain⟨h1,h2,h3,_⟩:=TS h (a:=a.toNat) (by omega) (by omega) b
 rw[<-e]at h1 h2 h3
 refine⟨h1,h2,?_,by omega,e⟩
 rw[xE (by omega),<-e]
 exact h3
theorem LC{d:Dg}(h:aO d=true){x:Da}(hx:okD d x):okD d (jQ d x):=by
 obtain⟨h1,h2,_⟩:=fO h hx x.b
 exact ey h h1 (Nat.mod_lt _ (by decide))
theorem fX:jt Tryz.prog 22 bu:=⟨.agg [.int .i64 0,.int .i64 0,.int .i64 0,.int .i64 0,.bool false].toArray,cE,by kernel_rfl,rfl,by decide,by decide⟩
theorem yU:jt Tryz.prog 64 cQ:=⟨.agg [.int .i64 0,.int .i64 0].toArray,vw,by kernel_rfl,rfl,by decide,by decide⟩
theorem mM:jt Tryz.prog 87 ib:=⟨.agg [.int .i64 0,.bool false].toArray,nG,by kernel_rfl,rfl,by decide,by decide⟩
noncomputable def Z0:=Tryz.f28.body.getD .skip
set_option maxRecDepth 10000 in
theorem C7{w:World}{M:Hp}{X:Fr}(x:Cr)(k:Nat)(hk:k<4)(S:SH w M X []):Cq Tryz.prog 28 [.agg [.int .i64 x.a,.int .i64 x.b,.int .i64 x.c,.int .i64 x.d,.bool x.plus].toArray,.int .i64 (k:Int)] w M X (fun u=>u=.int .i64 (dw x k)):=by
 unfold Cq
 refine cw (b:=Z0) Tryz.func28 rfl Tryz.ntmps28 rfl (fun C hC=>(cB [0,1] rfl (ar (aj rfl (dx (l:=[_,_,_,_,_]) rfl rfl rfl rfl rfl S ?_)))))
 intro aP w1 S1;clear S
 refine af 1 rfl (bL [1,2] rfl (ag rfl (az rfl b6 rfl aY aX) (ag rfl (aw rfl aG (S1.bc 0 rfl rfl)) (ag rfl (az rfl b6 rfl aY aX) (ag rfl (aw rfl aG (S1.bc 0 rfl rfl)) (ag rfl (az rfl b6 rfl aY aX) (ag rfl (aw rfl aG (S1.bc 0 rfl rfl)) (ag rfl (az rfl b6 rfl aY aX) ?_))))))))
 refine ag rfl (aw rfl aG (S1.bc 0 rfl rfl)) (ag rfl (vL (l:=[_,_,_,_]) (pl:=[(0,1),(1,1),(2,1),(3,1)]) rfl rfl V3 afW gp rfl rfl rfl) (af 1 rfl (ag rfl (DK (e:=k) rfl rfl rfl V3 aG rfl gp (by first|rfl|omega) (by first|omega|(simp only[ls];omega)) (ae0 [x.a,x.b,x.c,x.d] k (by simp;first|omega|(simp only[ls];omega)))) ?_)))
 refine af 1 rfl (ax [4] rfl (bU hC rfl ?_))
 exact⟨_,rfl,(S1.pick [] [] (by decide) trivial),(by have e0:k=0\/k=1\/k=2\/k=3:=(by omega);rcases e0 with rfl|rfl|rfl|rfl<;>first|rfl|(exfalso;omega))⟩
noncomputable def Z1:=Tryz.f110.body.getD .skip
set_option maxRecDepth 10000 in
theorem acZ{w:World}{M:Hp}{X:Fr}(x:Cr)(S:SH w M X []):Cq Tryz.prog 110 [.agg [.int .i64 x.a,.int .i64 x.b,.int .i64 x.c,.int .i64 x.d,.bool x.plus].toArray] w M X (fun u=>u=.int .i64 (yB x:Int)):=by
 unfold Cq
 refine cw (b:=Z1) Tryz.func110 rfl Tryz.ntmps110 rfl (fun C hC=>(cB [0] rfl (ar (aj rfl (dx (l:=[_,_,_,_,_]) rfl rfl rfl rfl rfl S ?_)))))
 intro aP w1 S1;clear S
 refine af 1 rfl (bM [1] rfl (ar (ag rfl (az rfl b6 rfl lM lJ) (ag rfl (aw rfl gY (S1.bc 0 rfl rfl)) (ax [4] rfl ?_)))))
 refine gB rfl (fun hb4=>?_) (fun hb4=>?_)
 ·refine ar (af 1 rfl (ax [2] rfl (bU hC rfl ?_)))
  exact⟨_,rfl,(S1.pick [] [] (by decide) trivial),(by show Value.int _ _=_;unfold yB;rw[hb4];rfl)⟩
 ·refine aV (cP [] rfl (af 1 rfl (aB (bK (bU hC rfl ?_)))))
  exact⟨_,rfl,(S1.pick [] [] (by decide) trivial),(by show Value.int _ _=_;unfold yB;rw[hb4];rfl)⟩
noncomputable def Z2:=Tryz.f81.body.getD .skip
set_option maxRecDepth 10000 in
theorem U3{w:World}{M:Hp}{X:Fr}(x:Cr)(k:Nat)(hk:k<4)(S:SH w M X []):Cq Tryz.prog 81 [.agg [.int .i64 x.a,.int .i64 x.b,.int .i64 x.c,.int .i64 x.d,.bool x.plus].toArray,.int .i64 (k:Int)] w M X (fun u=>u=.bool (kS x k)):=by
 unfold Cq
 refine cw (b:=Z2) Tryz.func81 rfl Tryz.ntmps81 rfl (fun C hC=>(cB [0,1] rfl (ar (aj rfl (dx (l:=[_,_,_,_,_]) rfl rfl rfl rfl rfl S ?_)))))
 intro aP w1 S1;clear S
 refine af 1 rfl (bL [1,2] rfl (af 3 rfl ?_))
 refine eN (t:=7) rfl (fun Qo=>?_) (fun Qo=>?_)
 ·refine af 6 rfl (ax [4] rfl (bU hC rfl ?_))
  exact⟨_,rfl,(S1.pick [] [] (by decide) trivial),(by show Value.bool _=_;refine congrArg Value.bool ?_;unfold kS;first|(symm;rw[decide_eq_true_iff];left;omega)|(unfold yB;refine decide_eq_decide.2 ?_;cases hp9:x.plus<;>simp<;>omega))⟩
 ·refine af 1 rfl (b8 rfl (aU [_,_,_,_,_] rfl b6 fN (S1.bs 0 rfl rfl)) (zq 5 6 rfl rfl rfl rfl rfl rfl rfl rfl (dU rfl rfl rfl rfl rfl rfl rfl ahH S1 (acZ x S1.aT) ?_)))
  rintro _ w2 S2 rfl;clear S1
  refine af 3 rfl (ax [4] rfl (bU hC rfl ?_))
  exact⟨_,rfl,(S2.pick [] [] (by decide) trivial),(by show Value.bool _=_;refine congrArg Value.bool ?_;unfold kS;first|(symm;rw[decide_eq_true_iff];left;omega)|(unfold yB;refine decide_eq_decide.2 ?_;cases hp9:x.plus<;>simp<;>omega))⟩
noncomputable def Z3:=Tryz.f91.body.getD .skip
set_option maxRecDepth 10000 in
theorem Kc{w:World}{M:Hp}{X:Fr}(d:Dg){cI:Nat}{cA iA oA:Option Addr}{cc ic oc:Nat}(c k:Nat)(bI:fW (M.un X.h) cI 66 [.slice cA d.ae.length cc,.int .i64 d.loops,.slice iA (aI d false (4*d.ae.length)).length ic,.slice oA (aI d true (4*d.ae.length)).length oc])(hsc:aJ bu (M.un X.h) cA cc d.ae)(hsi:aJ cQ (M.un X.h) iA ic (aI d false (4*d.ae.length)))(bq:aJ cQ (M.un X.h) oA oc (aI d true (4*d.ae.length)))(hc:c<d.ae.length)(hk:k<4)(S:SH w M X []):Cq Tryz.prog 91 [.pointer (some ⟨cI,0,none⟩),.agg [.int .i64 (c:Int),.int .i64 (k:Int)].toArray] w M X (fun u=>u=.int .i64 (aL d c k)):=by
 unfold Cq
 refine cw (b:=Z3) Tryz.func91 rfl Tryz.ntmps91 rfl (fun C hC=>(cB [0,1] rfl (ar (aj rfl (dx (l:=[_,_]) rfl rfl rfl rfl rfl S ?_)))))
 intro aP w1 S1;clear S
 refine af 1 rfl (bM [0,3] rfl (dH S1 13 ?_))
 clear S1
 refine aK 11 [0,1] rfl (aS 2 rfl (az rfl jy rfl jZ jX) (aS 3 rfl (az rfl aM rfl dN dM) (ay 4 rfl (fun ah Sz=>aw rfl cE ((bI.mono (Hp.aD ah Sz.mx)).cell Sz.um rfl)) (aS 5 rfl (az rfl dX rfl aY aX) (ay 6 rfl (fun ah Sz=>aw rfl aG (Sz.suf.bc 0 rfl rfl)) (ay 7 rfl (fun ah Sz=>cN c rfl fX (hsc.mono (Hp.aD ah Sz.mx))) (ay 8 rfl (fun ah Sz=>aU [_,_,_,_,_] rfl b6 fN ((hsc.mono (Hp.aD ah Sz.mx)).j6 Sz.um (e:=c) (by first|omega|(simp only[ls];omega)) (j:=0) ⟨rfl,rfl,rfl,rfl,rfl,trivial⟩)) ?_)))))))
 refine aS 9 rfl (az rfl dX rfl aY aX) (ay 10 rfl (fun ah Sz=>aw rfl aG (Sz.suf.bc 0 rfl rfl)) (dQ 11 rfl (fun ah Sz=>dZ rfl rfl rfl rfl rfl Dt Sz (C7 (ga d.ae c) k (by omega) Sz.aT)) ?_))
 refine aK 0 [12] rfl (cD (fun ow cS=>(aW [4] rfl (bU hC rfl ?_))))
 exact⟨_,rfl,(cS.pick [] [] (by decide) trivial),rfl⟩
noncomputable def Z4:=Tryz.f90.body.getD .skip
set_option maxRecDepth 10000 in
theorem VQ{w:World}{M:Hp}{X:Fr}(d:Dg){cI:Nat}{cA iA oA:Option Addr}{cc ic oc:Nat}(bI:fW (M.un X.h) cI 66 [.slice cA d.ae.length cc,.int .i64 d.loops,.slice iA (aI d false (4*d.ae.length)).length ic,.slice oA (aI d true (4*d.ae.length)).length oc])(hsc:aJ bu (M.un X.h) cA cc d.ae)(hsi:aJ cQ (M.un X.h) iA ic (aI d false (4*d.ae.length)))(bq:aJ cQ (M.un X.h) oA oc (aI d true (4*d.ae.length)))(hn:d.ae.length<=16)(S:SH w M X []):Cq Tryz.prog 90 [.pointer (some ⟨cI,0,none⟩)] w M X (fun u=>u=.int .i64 (2*(d.ae.length:Int))):=by
 unfold Cq
 refine cw (b:=Z4) Tryz.func90 rfl Tryz.ntmps90 rfl (fun C hC=>(cB [0] rfl (ar (af 1 rfl (bL [0] rfl (af 2 rfl (ag rfl (az rfl jy rfl jZ jX) (ag rfl (az rfl aM rfl dN dM) (ag rfl (aw rfl cE (bI.cell S.um rfl)) ?_)))))))))
 refine ag rfl (cK rfl cE) (ag rfl (zV rfl rfl rfl (by first|omega|(simp only[ls];omega))) ?_)
 refine af 1 rfl (ax [2] rfl (bU hC rfl ?_))
 exact⟨_,rfl,(S.pick [] [] (by decide) trivial),rfl⟩
end Go.Proofs.YtcohmplpgcddiaaGreatDoor
namespace Go.Proofs.YtcohmplpgcddiaaGreatDoor
open Go.ChangeShapes Go.WideShapes Go.ChangeAt Go.RowKit
noncomputable def Z5:=Tryz.f52.body.getD .skip
set_option maxRecDepth 10000 in
theorem MX{w:World}{M:Hp}{X:Fr}(d:Dg){cI:Nat}{cA iA oA:Option Addr}{cc ic oc:Nat}(x:Da)(bI:fW (M.un X.h) cI 66 [.slice cA d.ae.length cc,.int .i64 d.loops,.slice iA (aI d false (4*d.ae.length)).length ic,.slice oA (aI d true (4*d.ae.length)).length oc])(hsc:aJ bu (M.un X.h) cA cc d.ae)(hsi:aJ cQ (M.un X.h) iA ic (aI d false (4*d.ae.length)))(bq:aJ cQ (M.un X.h) oA oc (aI d true (4*d.ae.length)))(hn:d.ae.length<=16)(hab:aO d=true)(hx:okD d x)(S:SH w M X []):Cq Tryz.prog 52 [.pointer (some ⟨cI,0,none⟩),.agg [.int .i64 x.a,.bool x.b].toArray] w M X (fun u=>u=.agg (uO (aF d x.a x.b)).toArray):=by
 unfold Cq
 obtain⟨wk,zG,uX,Qt,Qs⟩:=fO hab hx x.b
 have htl:∀b,(aI d b (4*d.ae.length)).length=2*d.ae.length+1:=fun b=>jR d b _
 have htf:=htl false
 have htt:=htl true
 have hx1:=hx.1
 have hx2:=hx.2
 refine cw (b:=Z5) Tryz.func52 rfl Tryz.ntmps52 rfl (fun C hC=>(cB [0,1] rfl (ar (aj rfl (dx (l:=[_,_]) rfl rfl rfl rfl rfl S ?_)))))
 intro aP w1 S1;clear S
 refine aj rfl (bW (l:=[_,_]) rfl rfl rfl qX rfl S1 ?_)
 intro bJ w2 S2;clear S1
 refine bM [0,3,4] rfl (ar (ag rfl (az rfl eA rfl lM lJ) (ag rfl (aw rfl gY (S2.bc 1 rfl rfl)) (ax [0,3,4,6] rfl ?_))))
 refine gB rfl (fun Cj=>?_) (fun Cj=>?_)
 ·refine cJ (dH S2 9 ?_)
  clear S2
  refine aK 7 [0,1] rfl (aS 2 rfl (az rfl jy rfl zb yY) (ay 3 rfl (fun ah Sz=>aw rfl vw ((bI.mono (Hp.aD ah Sz.mx)).cell Sz.um rfl)) (aS 4 rfl (az rfl eA rfl aY aX) (ay 5 rfl (fun ah Sz=>aw rfl aG (Sz.suf.bc 1 rfl rfl)) (ay 6 rfl (fun ah Sz=>cN x.a.toNat rfl yU (bq.mono (Hp.aD ah Sz.mx))) (ay 7 rfl (fun ah Sz=>aU [_,_] rfl dX gX ((bq.mono (Hp.aD ah Sz.mx)).j6 Sz.um (e:=x.a.toNat) (by first|omega|(simp only[ls];omega)) (j:=0) ⟨rfl,rfl,trivial⟩)) ?_))))))
  refine cm 8 rfl (fun nL cO=>((bH 0 [_,_] [_,_] [_,_] rfl cO rfl rfl gX rfl rfl ?_)))
  intro ng cF;clear cO
  refine ij cF ?_;clear cF
  change WA _ _ _ _ _ _ _ _ _ _ _ _ [_,_]
  refine cD (fun lH ct=>(aW [4] rfl (dI hC [_] rfl rfl ⟨⟨_,rfl,dK (us:=[_,_]) dX rfl gX (ct.bs 0 rfl rfl)⟩,trivial⟩ ?_)))
  exact⟨_,rfl,(ct.pick [] [] (by decide) trivial),(by rw[Cj]at uX;show Value.agg (uO (ga (aI d _ (4*d.ae.length)) x.a.toNat)).toArray=_;rw[uX,Cj])⟩
 ·refine aV (bC [0,3,4] rfl (dH S2 9 ?_))
  clear S2
  refine aK 7 [0,1] rfl (aS 2 rfl (az rfl jy rfl zb yY) (ay 3 rfl (fun ah Sz=>aw rfl vw ((bI.mono (Hp.aD ah Sz.mx)).cell Sz.um rfl)) (aS 4 rfl (az rfl eA rfl aY aX) (ay 5 rfl (fun ah Sz=>aw rfl aG (Sz.suf.bc 1 rfl rfl)) (ay 6 rfl (fun ah Sz=>cN x.a.toNat rfl yU (hsi.mono (Hp.aD ah Sz.mx))) (ay 7 rfl (fun ah Sz=>aU [_,_] rfl dX gX ((hsi.mono (Hp.aD ah Sz.mx)).j6 Sz.um (e:=x.a.toNat) (by first|omega|(simp only[ls];omega)) (j:=0) ⟨rfl,rfl,trivial⟩)) ?_))))))
  refine cm 8 rfl (fun Kj gN=>((bH 0 [_,_] [_,_] [_,_] rfl gN rfl rfl gX rfl rfl ?_)))
  intro BN gI;clear gN
  refine ij gI ?_;clear gI
  change WA _ _ _ _ _ _ _ _ _ _ _ _ [_,_]
  refine cD (fun xS kM=>(aW [4] rfl (dI hC [_] rfl rfl ⟨⟨_,rfl,dK (us:=[_,_]) dX rfl gX (kM.bs 0 rfl rfl)⟩,trivial⟩ ?_)))
  exact⟨_,rfl,(kM.pick [] [] (by decide) trivial),(by rw[Cj]at uX;show Value.agg (uO (ga (aI d _ (4*d.ae.length)) x.a.toNat)).toArray=_;rw[uX,Cj])⟩
noncomputable def Z6:=Tryz.f74.body.getD .skip
set_option maxRecDepth 10000 in
theorem afM{w:World}{M:Hp}{X:Fr}(d:Dg){cI:Nat}{cA iA oA:Option Addr}{cc ic oc:Nat}(x:Da)(bI:fW (M.un X.h) cI 66 [.slice cA d.ae.length cc,.int .i64 d.loops,.slice iA (aI d false (4*d.ae.length)).length ic,.slice oA (aI d true (4*d.ae.length)).length oc])(hsc:aJ bu (M.un X.h) cA cc d.ae)(hsi:aJ cQ (M.un X.h) iA ic (aI d false (4*d.ae.length)))(bq:aJ cQ (M.un X.h) oA oc (aI d true (4*d.ae.length)))(hn:d.ae.length<=16)(hab:aO d=true)(hx:okD d x)(S:SH w M X []):Cq Tryz.prog 74 [.pointer (some ⟨cI,0,none⟩),.agg [.int .i64 x.a,.bool x.b].toArray] w M X (fun u=>u=.agg (D6 (jQ d x)).toArray):=by
 unfold Cq
 obtain⟨wk,zG,uX,Qt,Qs⟩:=fO hab hx x.b
 have htl:∀b,(aI d b (4*d.ae.length)).length=2*d.ae.length+1:=fun b=>jR d b _
 have htf:=htl false
 have htt:=htl true
 have hx1:=hx.1
 have hx2:=hx.2
 refine cw (b:=Z6) Tryz.func74 rfl Tryz.ntmps74 rfl (fun C hC=>(cB [0,1] rfl (ar (aj rfl (dx (l:=[_,_]) rfl rfl rfl rfl rfl S ?_)))))
 intro aP w1 S1;clear S
 refine aj rfl (bW (l:=[_,_]) rfl rfl rfl ra rfl S1 ?_)
 intro bJ w2 S2;clear S1
 refine bL [0,3,4] rfl (af 1 rfl (ag rfl (aU [_,_] rfl eA gD (S2.bs 1 rfl rfl)) (aj rfl (dU rfl rfl rfl rfl rfl rfl rfl Pn S2 (MX d x (bI.mono S2.bn) (hsc.mono S2.bn) (hsi.mono S2.bn) (bq.mono S2.bn) (by first|assumption|omega) hab (by first|assumption|omega) S2.aT) ?_))))
 rintro _ w3 S3 rfl;clear S2
 refine aj rfl (bW (l:=[_,_]) rfl rfl rfl qX rfl S3 ?_)
 intro dE w4 S4;clear S3
 refine aj rfl (bH 0 [_,_] [_,_] [_,_,_] rfl S4 rfl rfl gX rfl rfl ?_)
 intro w5 S5;clear S4
 refine bL [0,4,5] rfl (ag rfl (az rfl dX rfl aY aX) (ag rfl (aw rfl aG (S5.bc 0 rfl rfl)) (ag rfl (az rfl dX rfl aY aX) (ag rfl (aw rfl aG (S5.bc 0 rfl rfl)) (ag rfl (bj rfl) (ag rfl (zU rfl rfl rfl (by first|omega|(simp only[ls];omega))) ?_))))))
 refine ag rfl (rF rfl rfl rfl (by first|omega|(simp only[ls];omega))) ?_
 refine dz 16 (.int .i64 ((((aF d x.a x.b).2+3)%4:Nat):Int)) rfl (int_eq (by omega)) ?_
 have XG:((aF d x.a x.b).2+3)%4<4:=Nat.mod_lt _ (by decide)
 refine ag rfl (run_build (l:=[_,_]) rfl rfl Fi rfl rfl) (aj rfl (bW (l:=[_,_]) rfl rfl rfl qX rfl S5 ?_))
 intro lK w6 S6;clear S5
 refine aj rfl (bH 0 [_,_] [_,_] [_,_,_,_] rfl S6 rfl rfl gX rfl rfl ?_)
 intro w7 S7;clear S6
 refine bM [0,4,6] rfl (dH S7 17 ?_)
 clear S7
 refine aK 16 [0] rfl (ay 1 rfl (fun ah Sz=>aU [_,_] rfl dX gX (Sz.suf.bs 0 rfl rfl)) (dQ 2 rfl (fun ah Sz=>dZ rfl rfl rfl rfl rfl JX Sz (Kc d ((aF d x.a x.b).1) (((aF d x.a x.b).2+3)%4) ((bI.mono (Hp.aD ah Sz.mx)).mono Sz.bn) ((hsc.mono (Hp.aD ah Sz.mx)).mono Sz.bn) ((hsi.mono (Hp.aD ah Sz.mx)).mono Sz.bn) ((bq.mono (Hp.aD ah Sz.mx)).mono Sz.bn) (by omega) (by omega) Sz.aT)) ?_))
 refine aK 12 [3,4] rfl (aS 5 rfl (az rfl jy rfl jZ jX) (aS 6 rfl (az rfl aM rfl dN dM) (ay 7 rfl (fun ah Sz=>aw rfl cE ((bI.mono (Hp.aD ah Sz.mx)).cell Sz.um rfl)) (aS 8 rfl (az rfl dX rfl aY aX) (ay 9 rfl (fun ah Sz=>aw rfl aG (Sz.suf.bc 0 rfl rfl)) (ay 10 rfl (fun ah Sz=>cN ((aF d x.a x.b).1) rfl fX (hsc.mono (Hp.aD ah Sz.mx))) (ay 11 rfl (fun ah Sz=>aU [_,_,_,_,_] rfl b6 fN ((hsc.mono (Hp.aD ah Sz.mx)).j6 Sz.um (e:=(aF d x.a x.b).1) (by first|omega|(simp only[ls];omega)) (j:=0) ⟨rfl,rfl,rfl,rfl,rfl,trivial⟩)) ?_)))))))
 refine aS 12 rfl (az rfl dX rfl aY aX) (ay 13 rfl (fun ah Sz=>aw rfl aG (Sz.suf.bc 0 rfl rfl)) (dQ 14 rfl (fun ah Sz=>dZ rfl rfl rfl rfl rfl Yi Sz (U3 (ga d.ae ((aF d x.a x.b).1)) (((aF d x.a x.b).2+3)%4) (by omega) Sz.aT)) ?_))
 refine ay 15 rfl (fun ah Sz=>run_build (l:=[_,_]) rfl rfl FH rfl rfl) (cm 16 rfl (fun BN gI=>((bH 2 [_,_] [_,_] [_,_,_,_] rfl gI rfl rfl gD rfl rfl ?_))))
 intro xS kM;clear gI
 refine ij kM ?_;clear kM
 change WA _ _ _ _ _ _ _ _ _ _ _ _ [_,_,_,_]
 refine cD (fun DR fU=>(aW [4] rfl (dI hC [_] rfl rfl ⟨⟨_,rfl,dK (us:=[_,_]) eA rfl gD (fU.bs 2 rfl rfl)⟩,trivial⟩ ?_)))
 exact⟨_,rfl,(fU.pick [] [] (by decide) trivial),rfl⟩
noncomputable def Z7:=Tryz.f82.body.getD .skip
set_option maxRecDepth 10000 in
theorem Mc{w:World}{M:Hp}{X:Fr}(d:Dg){cI:Nat}{cA iA oA:Option Addr}{cc ic oc:Nat}(c k:Nat)(bI:fW (M.un X.h) cI 66 [.slice cA d.ae.length cc,.int .i64 d.loops,.slice iA (aI d false (4*d.ae.length)).length ic,.slice oA (aI d true (4*d.ae.length)).length oc])(hsc:aJ bu (M.un X.h) cA cc d.ae)(hsi:aJ cQ (M.un X.h) iA ic (aI d false (4*d.ae.length)))(bq:aJ cQ (M.un X.h) oA oc (aI d true (4*d.ae.length)))(hn:d.ae.length<=16)(hab:aO d=true)(hc:c<d.ae.length)(hk:k<4)(S:SH w M X []):Cq Tryz.prog 82 [.pointer (some ⟨cI,0,none⟩),.agg [.int .i64 (c:Int),.int .i64 (k:Int)].toArray] w M X (fun u=>u=.agg (uO (aF d (aL d c k) (bO d c k))).toArray):=by
 unfold Cq
 have hx:=ey hab hc hk
 have hx1:=hx.1
 have hx2:=hx.2
 obtain⟨wk,zG,uX,Qt,Qs⟩:=fO hab hx (bO d c k)
 have htl:∀b,(aI d b (4*d.ae.length)).length=2*d.ae.length+1:=fun b=>jR d b _
 have htf:=htl false
 have htt:=htl true
 refine cw (b:=Z7) Tryz.func82 rfl Tryz.ntmps82 rfl (fun C hC=>(cB [0,1] rfl (ar (aj rfl (dx (l:=[_,_]) rfl rfl rfl rfl rfl S ?_)))))
 intro aP w1 S1;clear S
 refine aj rfl (bW (l:=[_,_]) rfl rfl rfl qX rfl S1 ?_)
 intro bJ w2 S2;clear S1
 refine bL [0,3,4] rfl (af 1 rfl (ag rfl (aU [_,_] rfl dX gX (S2.bs 1 rfl rfl)) (aj rfl (dU rfl rfl rfl rfl rfl rfl rfl JX S2 (Kc d c k (bI.mono S2.bn) (hsc.mono S2.bn) (hsi.mono S2.bn) (bq.mono S2.bn) (by omega) (by omega) S2.aT) ?_))))
 rintro _ w3 S3 rfl;clear S2
 refine af 1 rfl (bM [0,3,4,5] rfl (cJ (dH S3 12 ?_)))
 clear S3
 refine aK 10 [0,1] rfl (aS 2 rfl (az rfl jy rfl jZ jX) (aS 3 rfl (az rfl aM rfl dN dM) (ay 4 rfl (fun ah Sz=>aw rfl cE ((bI.mono (Hp.aD ah Sz.mx)).cell Sz.um rfl)) (aS 5 rfl (az rfl dX rfl aY aX) (ay 6 rfl (fun ah Sz=>aw rfl aG (Sz.suf.bc 1 rfl rfl)) (ay 7 rfl (fun ah Sz=>cN c rfl fX (hsc.mono (Hp.aD ah Sz.mx))) (ay 8 rfl (fun ah Sz=>aU [_,_,_,_,_] rfl b6 fN ((hsc.mono (Hp.aD ah Sz.mx)).j6 Sz.um (e:=c) (by first|omega|(simp only[ls];omega)) (j:=0) ⟨rfl,rfl,rfl,rfl,rfl,trivial⟩)) ?_)))))))
 refine aS 9 rfl (az rfl dX rfl aY aX) (ay 10 rfl (fun ah Sz=>aw rfl aG (Sz.suf.bc 1 rfl rfl)) (dQ 11 rfl (fun ah Sz=>dZ rfl rfl rfl rfl rfl Yi Sz (U3 (ga d.ae c) k (by omega) Sz.aT)) ?_))
 refine cD (fun oU cC=>(aW [0,4,5,20] rfl ?_))
 refine gB rfl (fun xw=>?_) (fun xw=>?_)
 ·refine ar (af 2 rfl (ag rfl (az rfl jy rfl zb yY) (ag rfl (aw rfl vw (bI.cell cC.um rfl)) (af 1 rfl (ag rfl (cN ((aL d c k).toNat) rfl yU bq) (ag rfl (aU [_,_] rfl dX gX (bq.j6 cC.um (e:=(aL d c k).toNat) (by first|omega|(simp only[ls];omega)) (j:=0) ⟨rfl,rfl,trivial⟩)) ?_))))))
  refine aj rfl (bH 0 [_,_] [_,_] [_,_] rfl cC rfl rfl gX rfl rfl ?_)
  intro pU bY;clear cC
  refine ax [4] rfl (dI hC [_] rfl rfl ⟨⟨_,rfl,dK (us:=[_,_]) dX rfl gX (bY.bs 0 rfl rfl)⟩,trivial⟩ ?_)
  exact⟨_,rfl,(bY.pick [] [] (by decide) trivial),(by have oH:bO d c k=_:=xw;rw[oH]at uX ⊢;show Value.agg (uO (ga (aI d _ (4*d.ae.length)) (aL d c k).toNat)).toArray=_;rw[uX])⟩
 ·refine aV (cP [0,4,5] rfl (af 2 rfl (ag rfl (az rfl jy rfl zb yY) (ag rfl (aw rfl vw (bI.cell cC.um rfl)) (af 1 rfl (ag rfl (cN ((aL d c k).toNat) rfl yU hsi) (ag rfl (aU [_,_] rfl dX gX (hsi.j6 cC.um (e:=(aL d c k).toNat) (by first|omega|(simp only[ls];omega)) (j:=0) ⟨rfl,rfl,trivial⟩)) ?_)))))))
  refine aj rfl (bH 0 [_,_] [_,_] [_,_] rfl cC rfl rfl gX rfl rfl ?_)
  intro vP dW;clear cC
  refine ax [4] rfl (dI hC [_] rfl rfl ⟨⟨_,rfl,dK (us:=[_,_]) dX rfl gX (dW.bs 0 rfl rfl)⟩,trivial⟩ ?_)
  exact⟨_,rfl,(dW.pick [] [] (by decide) trivial),(by have oH:bO d c k=_:=xw;rw[oH]at uX ⊢;show Value.agg (uO (ga (aI d _ (4*d.ae.length)) (aL d c k).toNat)).toArray=_;rw[uX])⟩
end Go.Proofs.YtcohmplpgcddiaaGreatDoor
namespace Go.Proofs.YtcohmplpgcddiaaGreatDoor
open Go.ChangeShapes Go.WideShapes Go.ChangeAt Go.RowKit
theorem SH.aip{w:World}{M:Hp}{X:Fr}{H H':List Rs}{i g:Nat}{T:TypeId}{l:List Value}(S:SH w M X H)(hi:nth H i=some (Rs.box g T l))(hH:H.set i Rs.emp=H'):∃M',M.le M'/\SH w M' X H'/\fW M' g T l:=by
 obtain⟨h1,h2,h3⟩:=S.Ko hi hH
 refine⟨_,h1,h2,?_⟩
 show(M.put w _) g=_
 rw[h3 g (by simp[Rs.box])]
 exact S.get hi
theorem Ov:sM Tryz.prog 33 (fun x=>Value.agg (ib.f x).toArray):=UG Oq (fun x y=>⟨x.a=y.a/\x.b=y.b,⟨_,_,_,_,rfl,rfl,⟨_,_,rfl,rfl,rfl⟩,rfl⟩,⟨fun h=>by cases x;cases y;simp at h;simp[h],fun h=>by rw[h];exact⟨rfl,rfl⟩⟩⟩) (fun k=>by simp[Instr.sameBits,ib,D6])
def dA(c:Nat):Da:=⟨((c/2:Nat):Int),decide (c%2=1)⟩
def AP(k:Nat):Da:=dA (k+2)
def Ge(k:Nat):Value:=.agg (D6 (AP k)).toArray
def afR(g:Nat)(u:Value)(M:Hp):Prop:=∃b,u=.func (.func 89) #[] [.pointer (some ⟨b,0,none⟩)].toArray/\fW M b 60 [.pointer (some ⟨g,0,none⟩)]
theorem ad5(a i:Nat)(hi:i<2):(Value.agg [.int .i64 ((a:Int)+1),.bool (ga [false,true] i)].toArray)=Ge (2*a+i):=by
 have e:i=0\/i=1:=by omega
 unfold Ge AP dA
 rcases e with rfl|rfl
 ·rw[show(2*a+0+2)/2=a+1 by omega,show(2*a+0+2)%2=0 by omega];rfl
 ·rw[show(2*a+1+2)/2=a+1 by omega,show(2*a+1+2)%2=1 by omega];rfl
noncomputable def Z8:=Tryz.f73.body.getD .skip
noncomputable def Z9:=cL Z8
noncomputable def Za:=cR Z8
noncomputable def Zb:=cL Za
noncomputable def Zc:=cR Za
set_option maxRecDepth 10000 in
theorem aes{w:World}{M:Hp}{X:Fr}(d:Dg){cI:Nat}{cA iA oA:Option Addr}{cc ic oc:Nat}(bI:fW (M.un X.h) cI 66 [.slice cA d.ae.length cc,.int .i64 d.loops,.slice iA (aI d false (4*d.ae.length)).length ic,.slice oA (aI d true (4*d.ae.length)).length oc])(hsc:aJ bu (M.un X.h) cA cc d.ae)(hsi:aJ cQ (M.un X.h) iA ic (aI d false (4*d.ae.length)))(bq:aJ cQ (M.un X.h) oA oc (aI d true (4*d.ae.length)))(S:SH w M X []):Ct Tryz.prog 73 [.pointer (some ⟨cI,0,none⟩)] w M X (afR cI):=by
 unfold Ct
 refine cw (b:=Z8) Tryz.func73 rfl Tryz.ntmps73 rfl (fun C hC=>?_)
 refine yx [(0,_)] ⟨rfl,trivial⟩ ?_
 refine fe Z9 Za rfl rfl rfl ?_
 refine fQ rfl ?_
 refine bG (k:=0) (k':=1) rfl rfl rfl (dx (l:=[_]) rfl rfl rfl rfl rfl S ?_)
 intro aP w1 S1;clear S
 refine bG (k:=1) (k':=2) rfl rfl rfl (bT rfl rfl (run_assign rfl rfl) ?_)
 refine fq rfl ?_
 refine fy [(1,_)] ⟨rfl,trivial⟩ ?_
 refine bK ?_
 refine fe Zb Zc rfl rfl rfl ?_
 refine fQ rfl ?_
 refine bG (k:=0) (k':=1) rfl rfl rfl (bT rfl rfl (GD (vs:=[_]) rfl rfl rfl rfl) ?_)
 refine bG (k:=1) (k':=2) rfl rfl rfl (bT rfl rfl (run_assign rfl rfl) ?_)
 refine fq rfl ?_
 refine fy [(2,_)] ⟨rfl,trivial⟩ ?_
 refine bK ?_
 obtain⟨M1,bh,S2,O4⟩:=S1.aip (i:=0) (H':=[_]) rfl rfl
 clear S1
 replace bI:=bI.mono (Hp.aD bh S2.mx)
 replace hsc:=hsc.mono (Hp.aD bh S2.mx)
 replace hsi:=hsi.mono (Hp.aD bh S2.mx)
 replace bq:=bq.mono (Hp.aD bh S2.mx)
 refine dI hC [_] rfl rfl ⟨rfl,trivial⟩ ?_
 refine⟨_,rfl,_,bh,(S2.pick [] [] (by decide) trivial),?_⟩
 exact⟨_,rfl,O4⟩
namespace InF
noncomputable def Zd:=Tryz.f89.body.getD .skip
noncomputable def Ze:=cL Zd
noncomputable def Zf:=cR Zd
noncomputable def Zg:=cL Zf
noncomputable def Zh:=cL Zg
noncomputable def Zi:=cL Zh
noncomputable def Zj:=cR Zh
noncomputable def Zk:=cL Zi
noncomputable def Zl:=cR Zi
noncomputable def Zm:=cL Zl
noncomputable def Zn:=cR Zl
noncomputable def Zo:=cL Zj
noncomputable def Zp:=cR Zj
noncomputable def Zq:=cL Zo
noncomputable def Zr:=cL Zq
noncomputable def Zs:=cR Zq
noncomputable def Zt:=cL Zs
noncomputable def Zu:=cL Zt
noncomputable def Zv:=cL Zu
noncomputable def Zw:=cR Zu
noncomputable def Zx:=cL Zw
noncomputable def Zy:=cR Zw
noncomputable def Zz:=cL Zx
noncomputable def Z10:=cR Zx
noncomputable def Z11:=cL Zy
noncomputable def Z12:=cR Zy
noncomputable def Rj:=cL Z11
noncomputable def Z14:=cL Rj
noncomputable def Ri:=cR Rj
noncomputable def Z16:=cL Ri
noncomputable def Z17:=cR Ri
noncomputable def Z18:=cR Z17
set_option maxRecDepth 10000 in
theorem aaK{M:Hp}{X:Fr}(d:Dg){cI:Nat}{cA iA oA:Option Addr}{cc ic oc:Nat}{b:Nat}(bI:fW (M.un X.h) cI 66 [.slice cA d.ae.length cc,.int .i64 d.loops,.slice iA (aI d false (4*d.ae.length)).length ic,.slice oA (aI d true (4*d.ae.length)).length oc])(hsc:aJ bu (M.un X.h) cA cc d.ae)(hsi:aJ cQ (M.un X.h) iA ic (aI d false (4*d.ae.length)))(bq:aJ cQ (M.un X.h) oA oc (aI d true (4*d.ae.length)))(qM:fW M b 60 [.pointer (some ⟨cI,0,none⟩)])(hn:d.ae.length<=16):Iter Tryz.prog 89 [.pointer (some ⟨b,0,none⟩)] Ge (4*d.ae.length) M X:=by
 intro l J w M1 B hle0 hY S hJ0
 replace bI:=bI.mono (Hp.aD hle0 S.mx)
 replace hsc:=hsc.mono (Hp.aD hle0 S.mx)
 replace hsi:=hsi.mono (Hp.aD hle0 S.mx)
 replace bq:=bq.mono (Hp.aD hle0 S.mx)
 replace qM:=qM.mono hle0
 refine cw (b:=Zd) Tryz.func89 rfl Tryz.ntmps89 rfl (fun C Cl hC=>?_)
 have hCF:C.F=Fence.wide:=by unfold Ctx.F;rw[Cl]
 refine yx [(0,_),(1,_)] ⟨rfl,rfl,trivial⟩ ?_
 refine fe Ze Zf rfl rfl rfl ?_
 refine fQ rfl ?_
 refine bG (k:=0) (k':=1) rfl rfl rfl (bT rfl rfl (run_assign rfl rfl) ?_)
 refine fq rfl ?_
 refine bK ?_
 refine xH Zg 0 rfl rfl rfl ?_
 refine ck (fun aZ au aR=>∃(a:Nat) (B1:Rs) (M2:Hp),M1.le M2/\aZ=2*d.ae.length-a/\Env 23 [(0,.func (.yield l) #[] #[]),(1,.pointer (some ⟨b,0,none⟩)),(3,.int .i64 ((a:Int)+1))] au/\SH aR M2 X [B1]/\a<=2*d.ae.length/\J (2*a) M2 B1) rfl ?_ ?_
 ·intro au aq
  refine⟨_,⟨0,_,_,Hp.le_refl _,rfl,aq.sub ⟨rfl,rfl,rfl,trivial⟩,S.pick [0] [_] (by decide) ⟨rfl,trivial⟩,?dh,?dC⟩⟩
  case dh=>omega
  case dC=>exact hJ0
 ·rintro m1 a1 w1 ⟨a,B1,M2,bh,rfl,bN,S1,ha,hJa⟩
  clear S
  refine Fb bN (c:=Zh) rfl ?_
  clear bN a1
  replace bI:=bI.mono (Hp.aD bh S1.mx)
  replace hsc:=hsc.mono (Hp.aD bh S1.mx)
  replace hsi:=hsi.mono (Hp.aD bh S1.mx)
  replace bq:=bq.mono (Hp.aD bh S1.mx)
  replace qM:=qM.mono bh
  refine fe Zi Zj rfl rfl rfl ?_
  refine fe Zk Zl rfl rfl rfl ?_
  refine fQ rfl ?_
  refine bG (k:=0) (k':=1) rfl rfl rfl (bT rfl rfl (run_move rfl rfl) ?_)
  refine bG (k:=1) (k':=2) rfl rfl rfl (bT rfl rfl (sV rfl rfl lB rfl (qM.cell S1.m rfl)) ?_)
  refine bG (k:=2) (k':=3) rfl rfl rfl (dU rfl rfl rfl rfl rfl rfl rfl Yh S1 (VQ d (bI.mono S1.bn) (hsc.mono S1.bn) (hsi.mono S1.bn) (bq.mono S1.bn) (by omega) S1.aT) ?_)
  rintro _ w2 S2 rfl;clear S1
  refine bG (k:=3) (k':=4) rfl rfl rfl (bT rfl rfl (Un rfl rfl rfl) ?_)
  refine fq rfl ?_
  refine fy [(0,_),(1,_),(3,_),(9,_)] ⟨rfl,rfl,rfl,rfl,trivial⟩ ?_
  refine bK ?_
  refine zk Zm Zn rfl rfl rfl rfl (fun oH=>?_) (fun oH=>?_)
  ·replace oH:=of_decide_eq_true oH
   refine uD rfl ?_
   refine fy [(0,_),(1,_),(3,_)] ⟨rfl,rfl,rfl,trivial⟩ ?_
   refine bK ?_
   refine fe Zo Zp rfl rfl rfl ?_
   refine xH Zq 1 rfl rfl rfl ?_
   refine fe Zr Zs rfl rfl rfl ?_
   refine fQ rfl ?_
   refine bG (k:=0) (k':=1) rfl rfl rfl (bT rfl rfl (vL (l:=[_,_]) (pl:=[(0,1),(1,1)]) rfl rfl V2 afT BR rfl rfl rfl) ?_)
   refine bG (k:=1) (k':=2) rfl rfl rfl (bT rfl rfl (run_move rfl rfl) ?_)
   refine fq rfl ?_
   refine bK ?_
   refine xH Zt 2 rfl rfl rfl ?_
   refine ck (fun aZ au aR=>∃(i:Nat) (B2:Rs) (M3:Hp),M2.le M3/\aZ=2-i/\Env 23 [(0,.func (.yield l) #[] #[]),(1,.pointer (some ⟨b,0,none⟩)),(3,.int .i64 ((a:Int)+1)),(12,.agg [.bool false,.bool true].toArray),(13,.int .i64 (i:Int))] au/\SH aR M3 X [B2]/\i<=2/\J (2*a+i) M3 B2) rfl ?_ ?_
   ·intro au aq
    refine⟨_,⟨0,_,_,Hp.le_refl _,rfl,aq.sub ⟨rfl,rfl,rfl,rfl,rfl,trivial⟩,S2.pick [0] [_] (by decide) ⟨rfl,trivial⟩,?dv,?dL⟩⟩
    case dv=>omega
    case dL=>exact hJa
   ·rintro m2 a2 w3 ⟨i,B2,M3,hle2,rfl,cU,S3,hi,hJi⟩
    clear S2
    refine Fb cU (c:=Zu) rfl ?_
    clear cU a2
    replace bI:=bI.mono (Hp.aD hle2 S3.mx)
    replace hsc:=hsc.mono (Hp.aD hle2 S3.mx)
    replace hsi:=hsi.mono (Hp.aD hle2 S3.mx)
    replace bq:=bq.mono (Hp.aD hle2 S3.mx)
    replace qM:=qM.mono hle2
    refine fe Zv Zw rfl rfl rfl ?_
    refine fQ rfl ?_
    refine bG (k:=0) (k':=1) rfl rfl rfl (bT rfl rfl (Um rfl rfl rfl) ?_)
    refine fq rfl ?_
    refine bK ?_
    refine fe Zx Zy rfl rfl rfl ?_
    refine zk Zz Z10 rfl rfl rfl rfl (fun jf=>?_) (fun jf=>?_)
    ·replace jf:=of_decide_eq_true jf
     refine uD rfl ?_
     refine fy [(0,_),(1,_),(3,_),(12,_),(13,_)] ⟨rfl,rfl,rfl,rfl,rfl,trivial⟩ ?_
     refine bK ?_
     refine fe Z11 Z12 rfl rfl rfl ?_
     refine xH Rj 3 rfl rfl rfl ?_
     refine fe Z14 Ri rfl rfl rfl ?_
     refine fQ rfl ?_
     refine bG (k:=0) (k':=1) rfl rfl rfl (bT rfl rfl (DK (e:=i) rfl rfl rfl V2 gY rfl BR (by first|rfl|omega) (by first|omega|(simp only[ls];omega)) (ae1 [false,true] i (by simp;first|omega|(simp only[ls];omega)))) ?_)
     refine bG (k:=1) (k':=2) rfl rfl rfl (bT rfl rfl (run_assign rfl rfl) ?_)
     refine fq rfl ?_
     refine fy [(0,_),(1,_),(3,_),(12,_),(13,_),(5,_)] ⟨rfl,rfl,rfl,rfl,rfl,rfl,trivial⟩ ?_
     refine bK ?_
     refine fe Z16 Z17 rfl rfl rfl ?_
     refine fQ rfl ?_
     refine bG (k:=0) (k':=1) rfl rfl rfl (bT rfl rfl (run_move rfl rfl) ?_)
     refine bG (k:=1) (k':=2) rfl rfl rfl (bT rfl rfl (run_move rfl rfl) ?_)
     refine bG (k:=2) (k':=3) rfl rfl rfl (bT rfl rfl (run_move rfl rfl) ?_)
     refine bG (k:=3) (k':=4) rfl rfl rfl (bT rfl rfl (run_build (l:=[_,_]) rfl rfl FH rfl rfl) ?_)
     have XG:2*a+i<4*d.ae.length:=by omega
     refine abY (k:=4) (k':=5) rfl rfl rfl rfl rfl rfl rfl rfl rfl rfl (by rw[hCF];have h9:=hY (2*a+i) _ _ _ (by omega) (bh.trans hle2) S3 hJi;rw[<-ad5 a i (by omega)]at h9;exact h9) ?_
     rintro _ w4 ⟨rfl,M4,B6,bZ,S4,hJ1⟩;clear S3
     replace bI:=bI.mono (Hp.aD bZ S4.mx)
     replace hsc:=hsc.mono (Hp.aD bZ S4.mx)
     replace hsi:=hsi.mono (Hp.aD bZ S4.mx)
     replace bq:=bq.mono (Hp.aD bZ S4.mx)
     replace qM:=qM.mono bZ
     refine bG (k:=5) (k':=6) rfl rfl rfl (bT rfl rfl (CG rfl rfl) ?_)
     refine fq rfl ?_
     refine fy [(0,_),(1,_),(3,_),(12,_),(13,_),(21,_)] ⟨rfl,rfl,rfl,rfl,rfl,rfl,trivial⟩ ?_
     refine bK ?_
     refine DI Z18 rfl rfl rfl ?_
     refine uD rfl ?_
     refine bE ?_
     refine fy [(0,_),(1,_),(3,_),(12,_),(13,_)] ⟨rfl,rfl,rfl,rfl,rfl,trivial⟩ ?_
     refine bK ?_
     refine fQ rfl ?_
     refine bG (k:=0) (k':=1) rfl rfl rfl (bT rfl rfl (Il rfl rfl rfl (by first|omega|(simp only[ls];omega))) ?_)
     refine bG (k:=1) (k':=2) rfl rfl rfl (bT rfl rfl (run_move rfl rfl) ?_)
     refine fq rfl ?_
     refine br ?_
     intro au aq
     refine⟨_,?kr,⟨i+1,_,_,(hle2.trans bZ),rfl,aq.sub ⟨rfl,rfl,rfl,rfl,rfl,trivial⟩,S4.pick [0] [_] (by decide) ⟨rfl,trivial⟩,?fg,?fR⟩⟩
     case fg=>omega
     case fR=>first|assumption|(rw[show 2*a+(i+1)=2*a+i+1 by omega];assumption)
     case kr=>omega
    ·replace jf:=of_decide_eq_false jf
     refine CD rfl rfl ?_
     refine bE ?_
     refine fy [(0,_),(1,_),(3,_)] ⟨rfl,rfl,rfl,trivial⟩ ?_
     refine bK ?_
     refine fQ rfl ?_
     refine bG (k:=0) (k':=1) rfl rfl rfl (bT rfl rfl (run_move rfl rfl) ?_)
     refine bG (k:=1) (k':=2) rfl rfl rfl (bT rfl rfl (Il rfl rfl rfl (by first|omega|(simp only[ls];omega))) ?_)
     refine bG (k:=2) (k':=3) rfl rfl rfl (bT rfl rfl (run_assign rfl rfl) ?_)
     refine fq rfl ?_
     refine br ?_
     intro au aq
     refine⟨_,?jr,⟨a+1,_,_,(bh.trans hle2),rfl,aq.sub ⟨rfl,rfl,rfl,trivial⟩,S3.pick [0] [_] (by decide) ⟨rfl,trivial⟩,?fJ,?fZ⟩⟩
     case fJ=>omega
     case fZ=>(rw[show 2*(a+1)=2*a+i by omega];exact hJi)
     case jr=>omega
  ·replace oH:=of_decide_eq_false oH
   refine CD rfl rfl ?_
   refine l8 hC [] rfl trivial ?_
   refine⟨⟨_,rfl⟩,_,_,bh,S2,?_⟩
   rw[show 4*d.ae.length=2*a by omega]
   exact hJa
end InF
end Go.Proofs.YtcohmplpgcddiaaGreatDoor
namespace Go.Proofs.YtcohmplpgcddiaaGreatDoor
open Go.RowKit
def free(seen:List Bool):Nat:=seen.countP (fun b=>!b)
theorem sU{seen:List Bool}{x:Nat}(h:x<seen.length)(hx:ga seen x=false):free (seen.set x true)+1=free seen:=by
 induction seen generalizing x with
 |nil=>simp at h
 |cons b seen ih=>
  cases x with
  |zero=>
   have:b=false:=by simpa[ga]using hx
   subst this
   simp[free]
  |succ x=>
   have h1:ga (b::seen) (x+1)=ga seen x:=by simp[ga]
   rw[h1]at hx
   have h2:=ih (by simpa using h) hx
   unfold free at*
   rw[List.set_cons_succ,List.countP_cons,List.countP_cons]
   omega
def ju(nx:Nat->Nat)(seen:List Bool)(x:Nat)(acc:List Int):List Bool×List Int:=
 if _h:x<seen.length/\ga seen x=false then ju nx (seen.set x true) (nx x) (acc++[(x:Int)])else(seen,acc)
termination_by free seen
decreasing_by have := sU _h.1 _h.2; omega
theorem zj{nx:Nat->Nat}{seen:List Bool}{x:Nat}{acc:List Int}(h:x<seen.length)(hx:ga seen x=false):ju nx seen x acc=ju nx (seen.set x true) (nx x) (acc++[(x:Int)]):=by
 rw[ju];simp[h,hx]
theorem K4{nx:Nat->Nat}{seen:List Bool}{x:Nat}{acc:List Int}(hx:ga seen x=true):ju nx seen x acc=(seen,acc):=by
 rw[ju];simp[hx]
theorem abt(nx:Nat->Nat)(seen:List Bool)(x:Nat)(acc:List Int):(ju nx seen x acc).1.length=seen.length:=by
 induction hk:free seen using Nat.strongRecOn generalizing seen x acc with
 |_ k ih=>
  by_cases h:x<seen.length/\ga seen x=false
  ·rw[zj h.1 h.2]
   have:=sU h.1 h.2
   rw[ih (free (seen.set x true)) (by omega) _ _ _ rfl,List.length_set]
  ·rw[ju];simp[h]
end Go.Proofs.YtcohmplpgcddiaaGreatDoor
namespace Go.Proofs.YtcohmplpgcddiaaGreatDoor
open Go.ChangeShapes Go.WideShapes Go.ChangeAt Go.RowKit
def lL(x:Da):Nat:=(2*x.a+(if x.b=true then 1 else 0)).toNat
theorem E5{x:Da}(h:0<=x.a):dA (lL x)=x:=by
 obtain⟨a,b⟩:=x
 simp only at h
 unfold dA lL
 cases b
 ·simp only[Bool.false_eq_true,if_false,Int.add_zero]
  congr 1
  ·omega
  ·rw[decide_eq_false_iff_not];omega
 ·simp only[if_true]
  congr 1
  ·omega
  ·rw[decide_eq_true_iff];omega
theorem wL(c:Nat):lL (dA c)=c:=by
 unfold lL dA
 by_cases h:c%2=1
 ·simp only[h,decide_true,if_true];omega
 ·simp only[h,decide_false,Bool.false_eq_true,if_false];omega
theorem VI{c e:Nat}(h:dA c=dA e):c=e:=by rw[<-wL c,h,wL]
theorem nE{d:Dg}{c:Nat}(h:2<=c/\c<4*d.ae.length+2):okD d (dA c):=by
 show 1<=((c/2:Nat):Int)/\((c/2:Nat):Int)<=2*(d.ae.length:Int)
 omega
def fP(d:Dg)(c:Nat):Nat:=lL (jQ d (dA c))
theorem EC{d:Dg}{x:Da}(h:okD d x):2<=lL x/\lL x<4*d.ae.length+2:=by
 unfold okD at h
 unfold lL
 split<;>omega
theorem zW{d:Dg}(hab:aO d=true){c:Nat}(h:2<=c/\c<4*d.ae.length+2):2<=fP d c/\fP d c<4*d.ae.length+2:=EC (LC hab (nE h))
theorem Ai{d:Dg}(hab:aO d=true){c:Nat}(h:2<=c/\c<4*d.ae.length+2):dA (fP d c)=jQ d (dA c):=E5 (by have:=LC hab (nE h);unfold okD at this;omega)
def gG(d:Dg):Nat->List Bool×List (List Int)
 |0=>(List.replicate (4*d.ae.length+2) false,[])
 |k+1=>
  let s:=gG d k
  if ga s.1 (k+2)=true then s else((ju (fP d) s.1 (k+2) []).1,s.2++[(ju (fP d) s.1 (k+2) []).2])
theorem xL{d:Dg}{k:Nat}{s:List Bool×List (List Int)}(h:gG d k=s)(hg:ga s.1 (k+2)=true):gG d (k+1)=s:=by
 subst h
 show(if _ then _ else _)=_
 rw[if_pos hg]
theorem xK{d:Dg}{k:Nat}{s:List Bool×List (List Int)}{r:List Bool×List Int}(h:gG d k=s)(hg:ga s.1 (k+2)=false)(hr:ju (fP d) s.1 (k+2) []=r):gG d (k+1)=(r.1,s.2++[r.2]):=by
 subst h;subst hr
 show(if _ then _ else _)=_
 rw[if_neg (by rw[hg];exact Bool.false_ne_true)]
theorem DJ(d:Dg)(k:Nat):(gG d k).1.length=4*d.ae.length+2:=by
 induction k with
 |zero=>simp[gG]
 |succ k ih=>
  cases hg:ga (gG d k).1 (k+2)with
  |true=>rw[xL rfl hg];exact ih
  |false=>rw[xK rfl hg rfl,abt];exact ih
theorem HB(d:Dg)(k:Nat):(gG d k).2.length<=k:=by
 induction k with
 |zero=>simp[gG]
 |succ k ih=>
  cases hg:ga (gG d k).1 (k+2)with
  |true=>rw[xL rfl hg];omega
  |false=>rw[xK rfl hg rfl];simp;omega
def jY(r:List Int):List Da:=r.map fun c=>dA c.toNat
theorem SR(r:List Int)(c:Nat):jY (r++[(c:Int)])=jY r++[dA c]:=by unfold jY;rw[List.map_append];rfl
def CN(d:Dg)(k:Nat):List (List Da):=(gG d k).2.map jY
def ai(d:Dg):List (List Da):=CN d (4*d.ae.length)
def yS(d:Dg)(es:List (Da×Bool))(seen:List Bool):Prop:=∀c,2<=c->c<4*d.ae.length+2->(mg (dA c) es).getD false=ga seen c
theorem yS.eO(d:Dg):yS d [] (List.replicate (4*d.ae.length+2) false):=fun c _ hc=>by rw[rZ _ _ _ hc];rfl
theorem yS.put{d:Dg}{es:List (Da×Bool)}{seen:List Bool}(h:yS d es seen){c:Nat}(hc:c<seen.length):yS d (mp (dA c) true es) (seen.set c true):=fun e h1 h2=>by
 rw[yJ,eX _ _ _ _ hc]
 by_cases he:c=e
 ·subst he;rw[if_pos rfl,if_pos rfl];rfl
 ·rw[if_neg (fun e'=>he (VI e').symm),if_neg he];exact h e h1 h2
def rfA:Code->Code
 |.rangeFunc _ _ a _=>a
 |c=>c
def Kn:Code->Code
 |.rangeFunc _ _ _ b=>b
 |c=>c
def Ja(d:Dg)(cI g1 g3 g4 gm k:Nat)(M:Hp)(H:List Rs):Prop:=∃es vs Xl seen lY,
 H=[Rs.mp (fun x=>Value.agg (ib.f x).toArray) Value.bool gm es,Rs.box g4 61 [Xl],Rs.row (eZ 87) Xl vs,Rs.box g3 140 [.map (some gm)],Rs.box g1 60 [.pointer (some ⟨cI,0,none⟩)]]/\ia ib M vs (lY.map jY)/\gG d k=(seen,lY)/\yS d es seen
def Mf(d:Dg)(cI g1 g3 g4 gm k:Nat)(a:Act)(M:Hp)(H:List Rs):Prop:=∃g5 H',Env 35 [(1,.pointer (some ⟨g1,0,none⟩)),(3,.pointer (some ⟨g3,0,none⟩)),(4,.pointer (some ⟨g4,0,none⟩)),(5,.pointer (some ⟨g5,0,none⟩))] a/\H=Rs.box g5 33 [.int .i64 (AP k).a,.bool (AP k).b]::H'/\Ja d cI g1 g3 g4 gm k M H'
noncomputable def CC:Code:=cL (cR (cL (cR (cR (cR (Tryz.f47.body.getD .skip))))))
namespace InF
set_option maxRecDepth 10000 in
theorem aaw{w:World}{M:Hp}{X:Fr}{d:Dg}{cI zJ zI zH gm k:Nat}{C:Ctx}{R0:Rs}{H:List Rs}{L:List (Nat×Value)}(hL:Sub L [(1,.pointer (some ⟨zJ,0,none⟩)),(3,.pointer (some ⟨zI,0,none⟩)),(4,.pointer (some ⟨zH,0,none⟩)),(11,Ge k)])(S:SH w M X (R0::H))(hI:Ja d cI zJ zI zH gm k M H):
  WS Tryz.prog 35 C (rfA CC) [.lp (fun a w2=>∃M2 H2,M.le M2/\SH w2 M2 X (R0::H2)/\Mf d cI zJ zI zH gm k a M2 H2)] L w:=by
 obtain⟨es,vs,Aj,seen,lY,rfl,jk,hfn,jv⟩:=hI
 change SH w M X [R0,Rs.mp (fun x=>Value.agg (ib.f x).toArray) Value.bool gm es,_,Rs.row (eZ 87) Aj vs,_,_]at S
 refine yx _ hL ?_
 refine fQ rfl ?_
 refine bG (k:=0) (k':=1) rfl rfl rfl (bW (l:=[_,_]) rfl rfl rfl ra rfl S ?_)
 intro aP w1 S1;clear S
 refine bG (k:=1) (k':=2) rfl rfl rfl (gJ (i:=0) (us:=[_,_]) (l':=[_,_]) (H':=[_,_,_,_,_,_,_]) rfl rfl S1 rfl rfl rfl rfl gD rfl rfl rfl rfl ?_)
 intro w2 S2;clear S1
 refine fq rfl ?_
 refine br ?_
 intro au aq
 exact⟨M,_,Hp.le_refl _,S2.pick [1,0,2,3,4,5,6] [_,_,_,_,_,_,_] (by decide) ⟨rfl,rfl,rfl,rfl,rfl,rfl,rfl,trivial⟩,_,_,aq.sub ⟨rfl,rfl,rfl,rfl,trivial⟩,rfl,es,vs,Aj,seen,lY,rfl,jk,hfn,jv⟩
noncomputable def Z19:=Kn CC
noncomputable def Rh:=cL Z19
noncomputable def Rg:=cL Rh
noncomputable def Rf:=cR Rh
noncomputable def Z1d:=cL Rg
noncomputable def Re:=cR Rg
noncomputable def Z1f:=cL Re
noncomputable def Z1g:=cR Re
noncomputable def Z1h:=cL Rf
noncomputable def Rb:=cR Rf
noncomputable def Ra:=cL Rb
noncomputable def Z1k:=cR Rb
noncomputable def Z1l:=cL Ra
noncomputable def Z1m:=cR Ra
noncomputable def Z1n:=cL Z1m
noncomputable def Q9:=cL Z1n
noncomputable def Q8:=cL Q9
noncomputable def Q7:=cR Q9
noncomputable def Z1r:=cL Q8
noncomputable def Q6:=cR Q8
noncomputable def Z1t:=cL Q6
noncomputable def Z1u:=cR Q6
noncomputable def Z1v:=cL Q7
noncomputable def Q5:=cR Q7
noncomputable def Q0:=cL Z1v
noncomputable def Z1y:=cL Q0
noncomputable def Z1z:=cR Q0
noncomputable def QZ:=cL Q5
noncomputable def Z21:=cR Q5
noncomputable def Z22:=cL QZ
noncomputable def Z23:=cR QZ
set_option maxHeartbeats 1000000 in
set_option maxRecDepth 10000 in
theorem aa9{w:World}{M:Hp}{X:Fr}(d:Dg){cI zJ zI zH gm k:Nat}{cA iA oA:Option Addr}{cc ic oc:Nat}(bI:fW (M.un X.h) cI 66 [.slice cA d.ae.length cc,.int .i64 d.loops,.slice iA (aI d false (4*d.ae.length)).length ic,.slice oA (aI d true (4*d.ae.length)).length oc])(hsc:aJ bu (M.un X.h) cA cc d.ae)(hsi:aJ cQ (M.un X.h) iA ic (aI d false (4*d.ae.length)))(bq:aJ cQ (M.un X.h) oA oc (aI d true (4*d.ae.length)))(hn:d.ae.length<=16)(hab:aO d=true)(hk:k<4*d.ae.length){C:Ctx}{R0:Rs}{H:List Rs}{a:Act}(S:SH w M X (R0::H))(Hf:Mf d cI zJ zI zH gm k a M H):
  (Kn CC).wpIn C.F 0 Tryz.prog (post Tryz.prog C [.lp (fun _ w2=>∃M2 H2,M.le M2/\SH w2 M2 X (R0::H2)/\Ja d cI zJ zI zH gm (k+1) M2 H2)]) a w:=by
 obtain⟨gq5,H1,ha,rfl,es,vs,Aj,seen,lY,rfl,jk,hfn,jv⟩:=Hf
 change SH w M X [R0,Rs.box gq5 _ _,Rs.mp (fun x=>Value.agg (ib.f x).toArray) Value.bool gm es,_,Rs.row (eZ 87) Aj vs,_,_]at S
 have hdn:okD d (AP k):=nE (by omega)
 have hvs:=jk.1
 have pz:=HB d k
 rw[hfn]at pz
 replace pz:lY.length<=k:=pz
 rw[List.length_map]at hvs
 refine Fb ha (c:=Kn CC) rfl ?_
 refine xH Rh 1 rfl rfl rfl ?_
 refine fe Rg Rf rfl rfl rfl ?_
 refine fe Z1d Re rfl rfl rfl ?_
 refine fQ rfl ?_
 refine bG (k:=0) (k':=1) rfl rfl rfl (bT rfl rfl (sV rfl rfl CQ rfl (S.nJ (i:=5) rfl rfl)) ?_)
 refine bG (k:=1) (k':=2) rfl rfl rfl (bT rfl rfl (uG (us:=[_,_]) rfl rfl eA rfl gD (S.ql (i:=1) rfl ⟨rfl,rfl,trivial⟩)) ?_)
 refine bG (k:=2) (k':=3) rfl rfl rfl (bT rfl rfl (zn (kc:=(fun x=>Value.agg (ib.f x).toArray)) (vc:=Value.bool) (es:=es) (k:=(AP k)) (zv:=false) (i:=2) rfl rfl rfl CQ Ov Ke S rfl) ?_)
 refine fq rfl ?_
 refine fy [(1,_),(3,_),(4,_),(5,_),(14,_)] ⟨rfl,rfl,rfl,rfl,rfl,trivial⟩ ?_
 refine bK ?_
 refine zk Z1f Z1g rfl rfl rfl rfl (fun jf=>?_) (fun jf=>?_)
 ·refine CD rfl rfl ?_
  refine br ?_
  intro au aq
  exact⟨_,_,Hp.le_refl _,S.pick [0,2,3,4,5,6] [_,_,_,_,_,_] (by decide) ⟨rfl,rfl,rfl,rfl,rfl,rfl,trivial⟩,es,vs,Aj,seen,lY,rfl,jk,xL hfn (by rw[<-jv (k+2) (by omega) (by omega)];exact jf),jv⟩
 ·refine uD rfl ?_
  refine fy [(1,_),(3,_),(4,_),(5,_)] ⟨rfl,rfl,rfl,rfl,trivial⟩ ?_
  refine bK ?_
  refine fe Z1h Rb rfl rfl rfl ?_
  refine fQ rfl ?_
  refine bG (k:=0) (k':=1) rfl rfl rfl (bT rfl rfl (run_assign rfl rfl) ?_)
  refine fq rfl ?_
  refine bK ?_
  refine fe Ra Z1k rfl rfl rfl ?_
  refine fe Z1l Z1m rfl rfl rfl ?_
  refine fQ rfl ?_
  refine bG (k:=0) (k':=1) rfl rfl rfl (bT rfl rfl (uG (us:=[_,_]) rfl rfl eA rfl gD (S.ql (i:=1) rfl ⟨rfl,rfl,trivial⟩)) ?_)
  refine bG (k:=1) (k':=2) rfl rfl rfl (bW (l:=[_,_]) rfl rfl rfl ra rfl S ?_)
  intro aP w1 S1;clear S
  refine bG (k:=2) (k':=3) rfl rfl rfl (gJ (i:=0) (us:=[_,_]) (l':=[_,_]) (H':=[_,_,_,_,_,_,_,_]) rfl rfl S1 rfl rfl rfl rfl gD rfl rfl rfl rfl ?_)
  intro w2 S2;clear S1
  refine fq rfl ?_
  refine fy [(1,_),(3,_),(4,_),(6,_),(7,_)] ⟨rfl,rfl,rfl,rfl,rfl,trivial⟩ ?_
  refine bK ?_
  refine xH Z1n 2 rfl rfl rfl ?_
  have S3:=S2.jI ib;clear S2
  refine ck (fun aZ au aR=>∃(iz:List (Da×Bool)) (jJ:List Bool) (x:Nat) (y:Da) (acc:List Int) (qj:List Da) (Ak:Value) (rR:Nat),aZ=free jJ/\Env 35 [(1,.pointer (some ⟨zJ,0,none⟩)),(3,.pointer (some ⟨zI,0,none⟩)),(4,.pointer (some ⟨zH,0,none⟩)),(6,Ak),(7,.pointer (some ⟨rR,0,none⟩))] au/\SH aR M X [Rs.row ib Ak qj,Rs.box rR 33 [.int .i64 y.a,.bool y.b],R0,Rs.mp (fun x=>Value.agg (ib.f x).toArray) Value.bool gm iz,Rs.box zH 61 [Aj],Rs.row (eZ 87) Aj vs,Rs.box zI 140 [.map (some gm)],Rs.box zJ 60 [.pointer (some ⟨cI,0,none⟩)]]/\ju (fP d) seen (k+2) []=ju (fP d) jJ x acc/\qj=jY acc/\yS d iz jJ/\(2<=x/\x<4*d.ae.length+2)/\jJ.length=4*d.ae.length+2/\y=dA x/\acc.length+free jJ<=100) rfl ?_ ?_
  ·intro au aq
   refine⟨_,⟨es,seen,k+2,AP k,[],_,_,_,rfl,aq.sub ⟨rfl,rfl,rfl,rfl,rfl,trivial⟩,S3.pick [0,1,2,4,5,6,7,8] [_,_,_,_,_,_,_,_] (by decide) ⟨rfl,rfl,rfl,rfl,rfl,rfl,rfl,rfl,trivial⟩,?dh,?dC,?jm,?q7,?AB,?NB,?NA⟩⟩
   case dh=>rfl
   case dC=>rfl
   case jm=>exact jv
   case q7=>omega
   case AB=>(have h9:=DJ d k;rw[hfn]at h9;exact h9)
   case NB=>rfl
   case NA=>(have h9:=DJ d k;rw[hfn]at h9;have h8:free seen<=seen.length:=List.countP_le_length;simp only[List.length_nil];simp only at h9;omega)
  ·rintro m1 a1 w3 ⟨iz,jJ,x,y,acc,qj,Ak,rR,rfl,bN,S4,hrg,Av,JI,hx,hs2,hy,hroom⟩
   clear S3
   refine Fb bN (c:=Q9) rfl ?_
   clear bN a1
   have hyk:okD d y:=by rw[hy];exact nE hx
   have hrl:qj.length=acc.length:=by rw[Av];simp[jY]
   have DZ:=JI x hx.1 hx.2
   refine fe Q8 Q7 rfl rfl rfl ?_
   refine fe Z1r Q6 rfl rfl rfl ?_
   refine fQ rfl ?_
   refine bG (k:=0) (k':=1) rfl rfl rfl (bT rfl rfl (sV rfl rfl CQ rfl (S4.nJ (i:=6) rfl rfl)) ?_)
   refine bG (k:=1) (k':=2) rfl rfl rfl (bT rfl rfl (uG (us:=[_,_]) rfl rfl eA rfl gD (S4.ql (i:=1) rfl ⟨rfl,rfl,trivial⟩)) ?_)
   refine bG (k:=2) (k':=3) rfl rfl rfl (bT rfl rfl (zn (kc:=(fun x=>Value.agg (ib.f x).toArray)) (vc:=Value.bool) (es:=iz) (k:=y) (zv:=false) (i:=3) rfl rfl rfl CQ Ov Ke S4 rfl) ?_)
   refine bG (k:=3) (k':=4) rfl rfl rfl (bT rfl rfl (CG rfl rfl) ?_)
   refine fq rfl ?_
   refine fy [(1,_),(3,_),(4,_),(6,_),(7,_),(19,_)] ⟨rfl,rfl,rfl,rfl,rfl,rfl,trivial⟩ ?_
   refine bK ?_
   refine zk Z1t Z1u rfl rfl rfl rfl (fun l5=>?_) (fun l5=>?_)
   ·simp only[Bool.and_eq_true,Bool.or_eq_true,Bool.and_eq_false_iff,Bool.or_eq_false_iff,decide_eq_true_eq,decide_eq_false_iff_not,Bool.not_eq_true',Bool.not_eq_false']at l5
    refine uD rfl ?_
    refine fy [(1,_),(3,_),(4,_),(6,_),(7,_)] ⟨rfl,rfl,rfl,rfl,rfl,trivial⟩ ?_
    refine bK ?_
    refine fe Z1v Q5 rfl rfl rfl ?_
    refine xH Q0 3 rfl rfl rfl ?_
    refine fe Z1y Z1z rfl rfl rfl ?_
    refine fQ rfl ?_
    refine bG (k:=0) (k':=1) rfl rfl rfl (bT rfl rfl (sV rfl rfl CQ rfl (S4.nJ (i:=6) rfl rfl)) ?_)
    refine bG (k:=1) (k':=2) rfl rfl rfl (bT rfl rfl (uG (us:=[_,_]) rfl rfl eA rfl gD (S4.ql (i:=1) rfl ⟨rfl,rfl,trivial⟩)) ?_)
    refine bG (k:=2) (k':=3) rfl rfl rfl (ou (kc:=(fun x=>Value.agg (ib.f x).toArray)) (vc:=Value.bool) (es:=iz) (k:=y) (e:=true) (i:=3) (H':=[_,_,_,_,_,_,_,_]) (.inl rfl) rfl S4 rfl rfl rfl rfl CQ Ov rfl ?_)
    intro w4 S5;clear S4
    refine fq rfl ?_
    refine fy [(1,_),(3,_),(4,_),(6,_),(7,_)] ⟨rfl,rfl,rfl,rfl,rfl,trivial⟩ ?_
    refine bK ?_
    refine fQ rfl ?_
    refine bG (k:=0) (k':=1) rfl rfl rfl (bT rfl rfl (run_move rfl rfl) ?_)
    refine bG (k:=1) (k':=2) rfl rfl rfl (bT rfl rfl (uG (us:=[_,_]) rfl rfl eA rfl gD (S5.ql (i:=1) rfl ⟨rfl,rfl,trivial⟩)) ?_)
    refine bG (k:=2) (k':=3) rfl rfl rfl (eQ (C:=ib) (l:=[_,_]) rfl rfl rfl rfl mM rfl rfl rfl rfl S5 ?_)
    intro bJ w5 S6;clear S5
    refine bG (k:=3) (k':=4) rfl rfl rfl (gw (C:=ib) (i:=1) (q:=0) (⟨y.a,y.b⟩:Da) rfl rfl rfl rfl rfl rfl rfl rfl mM S6 rfl rfl rfl (by show(_+1)*16<=_;first|omega|(simp only[ls];omega)) ?_)
    intro aez w6 S7;clear S6
    have S8:=S7.pick [1,2,3,4,5,6,7,8] [_,_,_,_,_,_,_,_] (by decide) ⟨rfl,rfl,rfl,rfl,rfl,rfl,rfl,rfl,trivial⟩;clear S7
    refine bG (k:=4) (k':=5) rfl rfl rfl (bT rfl rfl (run_assign rfl rfl) ?_)
    refine fq rfl ?_
    refine bE ?_
    refine fy [(1,_),(3,_),(4,_),(6,_),(7,_)] ⟨rfl,rfl,rfl,rfl,rfl,trivial⟩ ?_
    refine bK ?_
    refine fe QZ Z21 rfl rfl rfl ?_
    refine fe Z22 Z23 rfl rfl rfl ?_
    refine fQ rfl ?_
    refine bG (k:=0) (k':=1) rfl rfl rfl (bT rfl rfl (uG (us:=[_,_]) rfl rfl eA rfl gD (S8.ql (i:=1) rfl ⟨rfl,rfl,trivial⟩)) ?_)
    refine fq rfl ?_
    refine fy [(1,_),(3,_),(4,_),(6,_),(29,_)] ⟨rfl,rfl,rfl,rfl,rfl,trivial⟩ ?_
    refine bK ?_
    refine fQ rfl ?_
    refine bG (k:=0) (k':=1) rfl rfl rfl (bW (l:=[_,_]) rfl rfl rfl ra rfl S8 ?_)
    intro dE w7 S9;clear S8
    refine bG (k:=1) (k':=2) rfl rfl rfl (gJ (i:=0) (us:=[_,_]) (l':=[_,_]) (H':=[_,_,_,_,_,_,_,_,_]) rfl rfl S9 rfl rfl rfl rfl gD rfl rfl rfl rfl ?_)
    intro w8 bQ;clear S9
    refine fq rfl ?_
    refine fy [(1,_),(3,_),(4,_),(6,_),(7,_)] ⟨rfl,rfl,rfl,rfl,rfl,trivial⟩ ?_
    refine bK ?_
    refine fQ rfl ?_
    refine bG (k:=0) (k':=1) rfl rfl rfl (bT rfl rfl (sV rfl rfl lB rfl (bQ.nJ (i:=8) rfl rfl)) ?_)
    refine bG (k:=1) (k':=2) rfl rfl rfl (bT rfl rfl (uG (us:=[_,_]) rfl rfl eA rfl gD (bQ.ql (i:=0) rfl ⟨rfl,rfl,trivial⟩)) ?_)
    refine bG (k:=2) (k':=3) rfl rfl rfl (dU rfl rfl rfl rfl rfl rfl rfl aj4 bQ (afM d y (bI.mono bQ.bn) (hsc.mono bQ.bn) (hsi.mono bQ.bn) (bq.mono bQ.bn) (by first|assumption|omega) hab (by first|assumption|omega) bQ.aT) ?_)
    rintro _ w9 cz rfl;clear bQ
    refine bG (k:=3) (k':=4) rfl rfl rfl (gJ (i:=0) (us:=[_,_]) (l':=[_,_]) (H':=[_,_,_,_,_,_,_,_,_]) rfl rfl cz rfl rfl rfl rfl gD rfl rfl rfl rfl ?_)
    intro ld cO;clear cz
    refine fq rfl ?_
    refine br ?_
    have yj:ga jJ x=false:=by rw[<-DZ,<-hy];simpa using l5
    have G7:=sU (seen:=jJ) (x:=x) (by omega) yj
    intro au aq
    refine⟨_,?fK,⟨_,jJ.set x true,fP d x,jQ d y,acc++[(x:Int)],_,_,_,rfl,aq.sub ⟨rfl,rfl,rfl,rfl,rfl,trivial⟩,cO.pick [1,0,3,4,5,6,7,8] [_,_,_,_,_,_,_,_] (by decide) ⟨rfl,rfl,rfl,rfl,rfl,rfl,rfl,rfl,trivial⟩,?dv,?dL,?jl,?py,?wP,?AA,?Nz⟩⟩
    case dv=>(rw[hrg];exact zj (by omega) yj)
    case dL=>(rw[SR,<-Av,hy])
    case jl=>(rw[hy];exact JI.put (by omega))
    case py=>exact zW hab hx
    case wP=>(rw[List.length_set];exact hs2)
    case AA=>(rw[hy,Ai hab hx])
    case Nz=>(simp only[List.length_append,List.length_cons,List.length_nil];omega)
    case fK=>omega
   ·simp only[Bool.and_eq_true,Bool.or_eq_true,Bool.and_eq_false_iff,Bool.or_eq_false_iff,decide_eq_true_eq,decide_eq_false_iff_not,Bool.not_eq_true',Bool.not_eq_false']at l5
    refine CD rfl rfl ?_
    refine fy [(1,_),(3,_),(4,_),(6,_)] ⟨rfl,rfl,rfl,rfl,trivial⟩ ?_
    refine bK ?_
    refine fQ rfl ?_
    refine bG (k:=0) (k':=1) rfl rfl rfl (bT rfl rfl (sV rfl rfl qo rfl (S4.nJ (i:=4) rfl rfl)) ?_)
    refine bG (k:=1) (k':=2) rfl rfl rfl (bT rfl rfl (run_move rfl rfl) ?_)
    obtain⟨M1,hle2,cF,⟨A1,c1,e1,hr1⟩⟩:=S4.gP (i:=0) (H':=[_,_,_,_,_,_,_,_]) rfl rfl (by show _*16<=_;first|omega|(simp only[ls];omega))
    clear S4;subst e1
    replace bI:=bI.mono (Hp.aD hle2 cF.mx)
    replace hsc:=hsc.mono (Hp.aD hle2 cF.mx)
    replace hsi:=hsi.mono (Hp.aD hle2 cF.mx)
    replace bq:=bq.mono (Hp.aD hle2 cF.mx)
    replace jk:=jk.mono hle2
    refine bG (k:=2) (k':=3) rfl rfl rfl (eQ (C:=(eZ 87)) (l:=[_]) rfl rfl rfl rfl qp rfl rfl rfl rfl cF ?_)
    intro lK lI ct;clear cF
    refine bG (k:=3) (k':=4) rfl rfl rfl (gw (C:=(eZ 87)) (i:=6) (q:=0) (⟨A1,qj.length,c1⟩:ei) rfl rfl rfl rfl rfl rfl rfl rfl qp ct rfl rfl rfl (by show(_+1)*24<=_;first|omega|(simp only[ls];omega)) ?_)
    intro akI nL cS;clear ct
    have cC:=cS.pick [1,2,3,4,5,6,7,8] [_,_,_,_,_,_,_,_] (by decide) ⟨rfl,rfl,rfl,rfl,rfl,rfl,rfl,rfl,trivial⟩;clear cS
    have hd1:=jk.snoc (c:=c1) hr1
    refine bG (k:=4) (k':=5) rfl rfl rfl (gJ (i:=4) (us:=[_]) (l':=[_]) (H':=[_,_,_,_,_,_,_,_]) rfl rfl cC rfl rfl rfl (cC.nS (i:=5) rfl) aii rfl (iq (cC.one (i:=5) rfl) rfl) rfl rfl ?_)
    intro ng bY;clear cC
    refine fq rfl ?_
    refine bE ?_
    refine br ?_
    intro au aq
    exact⟨_,_,hle2,bY.pick [2,3,4,5,6,7] [_,_,_,_,_,_] (by decide) ⟨rfl,rfl,rfl,rfl,rfl,rfl,trivial⟩,_,_,_,jJ,lY++[acc],rfl,by rw[List.map_append,show List.map jY [acc]=[qj]from by rw[Av];rfl];exact hd1,xK hfn (by rw[<-jv (k+2) (by omega) (by omega)];exact jf) (hrg.trans (K4 (by rw[<-JI x (by omega) (by omega),<-hy];simpa using l5))),JI⟩
end InF
end Go.Proofs.YtcohmplpgcddiaaGreatDoor
namespace Go.Proofs.YtcohmplpgcddiaaGreatDoor
open Go.ChangeShapes Go.WideShapes Go.ChangeAt Go.RowKit
def MZ(d:Dg)(u:Value)(M:Hp):Prop:=∃A c vs,u=.slice A vs.length c/\aJ (eZ 87) M A c vs/\ia ib M vs (ai d)
namespace InF
noncomputable def QY:=Tryz.f47.body.getD .skip
noncomputable def Z25:=cL QY
noncomputable def QX:=cR QY
noncomputable def Z27:=cL QX
noncomputable def QW:=cR QX
noncomputable def Z29:=cL QW
noncomputable def QV:=cR QW
noncomputable def QU:=cL QV
noncomputable def Z2c:=cR QV
noncomputable def Z2d:=cL QU
noncomputable def Z2e:=cR QU
noncomputable def Z2f:=cL Z2e
set_option maxRecDepth 10000 in
theorem Me{w:World}{M:Hp}{X:Fr}(d:Dg){cI:Nat}{cA iA oA:Option Addr}{cc ic oc:Nat}(bI:fW (M.un X.h) cI 66 [.slice cA d.ae.length cc,.int .i64 d.loops,.slice iA (aI d false (4*d.ae.length)).length ic,.slice oA (aI d true (4*d.ae.length)).length oc])(hsc:aJ bu (M.un X.h) cA cc d.ae)(hsi:aJ cQ (M.un X.h) iA ic (aI d false (4*d.ae.length)))(bq:aJ cQ (M.un X.h) oA oc (aI d true (4*d.ae.length)))(hn:d.ae.length<=16)(hab:aO d=true)(S:SH w M X []):Ct Tryz.prog 47 [.pointer (some ⟨cI,0,none⟩)] w M X (MZ d):=by
 unfold Ct
 refine RI (b:=QY) Tryz.func47 rfl Tryz.ntmps47 rfl (fun C Cl hC=>?_)
 refine yx [(0,_)] ⟨rfl,trivial⟩ ?_
 refine fe Z25 QX rfl rfl rfl ?_
 refine fQ rfl ?_
 refine bG (k:=0) (k':=1) rfl rfl rfl (dx (l:=[_]) rfl rfl rfl rfl rfl S ?_)
 intro aP w1 S1;clear S
 refine bG (k:=1) (k':=2) rfl rfl rfl (bT rfl rfl (run_assign rfl rfl) ?_)
 refine fq rfl ?_
 refine fy [(1,_)] ⟨rfl,trivial⟩ ?_
 refine bK ?_
 refine fe Z27 QW rfl rfl rfl ?_
 refine fQ rfl ?_
 refine bG (k:=0) (k':=1) rfl rfl rfl (xJ Da Bool (fun x=>Value.agg (ib.f x).toArray) Value.bool rfl rfl rfl S1 ?_)
 intro iH w2 S2;clear S1
 refine bG (k:=1) (k':=2) rfl rfl rfl (bW (l:=[_]) rfl rfl rfl afU rfl S2 ?_)
 intro bJ w3 S3;clear S2
 refine bG (k:=2) (k':=3) rfl rfl rfl (gJ (i:=0) (us:=[_]) (l':=[_]) (H':=[_,_,_]) rfl rfl S3 rfl rfl rfl rfl ago rfl rfl rfl rfl ?_)
 intro w4 S4;clear S3
 refine fq rfl ?_
 refine fy [(1,_),(3,_)] ⟨rfl,rfl,trivial⟩ ?_
 refine bK ?_
 refine fe Z29 QV rfl rfl rfl ?_
 refine fQ rfl ?_
 refine bG (k:=0) (k':=1) rfl rfl rfl (bW (l:=[_]) rfl rfl rfl ahV rfl S4 ?_)
 intro dE w5 S5;clear S4
 refine fq rfl ?_
 refine bK ?_
 refine fe QU Z2c rfl rfl rfl ?_
 refine fe Z2d Z2e rfl rfl rfl ?_
 refine fQ rfl ?_
 refine bG (k:=0) (k':=1) rfl rfl rfl (bT rfl rfl (sV rfl rfl lB rfl (S5.nJ (i:=3) rfl rfl)) ?_)
 refine bG (k:=1) (k':=2) rfl rfl rfl (eo rfl rfl rfl rfl rfl rfl rfl aj5 S5 (aes d (bI.mono S5.bn) (hsc.mono S5.bn) (hsi.mono S5.bn) (bq.mono S5.bn) S5.aT) ?_)
 intro PN w6 M1 bh S6 Bp;clear S5
 replace bI:=bI.mono (Hp.aD bh S6.mx)
 replace hsc:=hsc.mono (Hp.aD bh S6.mx)
 replace hsi:=hsi.mono (Hp.aD bh S6.mx)
 replace bq:=bq.mono (Hp.aD bh S6.mx)
 obtain⟨bd1,rfl,O4⟩:=Bp
 refine fq rfl ?_
 refine fy [(1,_),(3,_),(4,_),(10,_)] ⟨rfl,rfl,rfl,rfl,trivial⟩ ?_
 refine bK ?_
 refine xH Z2f 0 rfl rfl rfl ?_
 have S9:=(S6.jI (eZ 87)).pick [3,1,0,2,4] [_,_,_,_,_] (by decide) ⟨rfl,rfl,rfl,rfl,rfl,trivial⟩
 refine aaq (p:=11) (f:=89) (lb:=[_]) (asg:=rfA CC) (bd:=Kn CC) (enc:=Ge) (N:=4*d.ae.length) Cl rfl rfl rfl ajX S9 (Ja d cI aP bJ dE iH) (Mf d cI aP bJ dE iH) ?_ (aaK d bI hsc hsi bq O4 hn) ?_ ?_ ?_
 ·exact⟨[],[],.slice none 0 0,_,[],rfl,ia.eO,rfl,yS.eO d⟩
 ·intro k M' H' w' C' R0 hk hle S' hI
  exact aaw ⟨rfl,rfl,rfl,rfl,trivial⟩ S' hI
 ·intro k M' H' w' C' R0 a hk hle S' Hf
  exact aa9 d (bI.mono (Hp.aD hle S'.mx)) (hsc.mono (Hp.aD hle S'.mx)) (hsi.mono (Hp.aD hle S'.mx)) (bq.mono (Hp.aD hle S'.mx)) hn hab hk S' Hf
 ·intro a M' H' w' D l rc ha hle S' hI
  obtain⟨es,vs,Xf,seen,lY,rfl,jk,hfn,jv⟩:=hI
  change SH w' M' X [Rs.lr l D rc,_,_,Rs.row (eZ 87) Xf vs,_,_]at S'
  refine ac7 (c:=Z2c) (i:=15) (d1:=34) (d2:=2) (v:=Xf) hC rfl rfl rfl rfl rfl rfl rfl ha rfl qo rfl rfl rfl rfl S' (S'.nJ (i:=2) rfl rfl) (fun w2 S2=>?_)
  have hvl:=jk.1
  rw[List.length_map]at hvl
  have pz:=HB d (4*d.ae.length)
  rw[hfn]at pz
  replace pz:lY.length<=4*d.ae.length:=pz
  obtain⟨M3,bZ,S3,⟨A,c,e,hr⟩⟩:=S2.gP (i:=2) (H':=[_,_,_,_,_]) rfl rfl (by show _*24<=_;omega)
  subst e
  refine⟨_,rfl,M3,(bh).trans (hle.trans bZ),S3.pick [] [] (by decide) trivial,A,c,vs,rfl,hr,?_⟩
  have e2:ai d=lY.map jY:=by unfold ai CN;rw[hfn]
  rw[e2]
  exact jk.mono bZ
end InF
end Go.Proofs.YtcohmplpgcddiaaGreatDoor
namespace Go.Proofs.YtcohmplpgcddiaaGreatDoor
open Go.ChangeShapes Go.WideShapes Go.ChangeAt Go.RowKit
noncomputable def Z2g:=Tryz.f32.body.getD .skip
set_option maxRecDepth 10000 in
theorem uB{w:World}{M:Hp}{X:Fr}(d:Dg){bz:Option Addr}{bw:Nat}(c k:Nat)(aC:aJ bu (M.un X.h) bz bw d.ae)(hc:c<d.ae.length)(hk:k<4)(S:SH w M X []):Cq Tryz.prog 32 [.agg [.slice bz d.ae.length bw,.int .i64 d.loops].toArray,.agg [.int .i64 (c:Int),.int .i64 (k:Int)].toArray] w M X (fun u=>u=.int .i64 (aL d c k)):=by
 unfold Cq
 have iL:d.ae.length*40<=140737488355328:=aC.room
 refine cw (b:=Z2g) Tryz.func32 rfl Tryz.ntmps32 rfl (fun C hC=>(cB [0,1] rfl (ar (aj rfl (dx (l:=[_,_]) rfl rfl rfl rfl rfl S ?_)))))
 intro aP w1 S1;clear S
 refine aj rfl (dx (l:=[_,_]) rfl rfl rfl rfl rfl S1 ?_)
 intro bJ w2 S2;clear S1
 refine af 1 rfl (bL [2,3] rfl (ag rfl (az rfl aM rfl dN dM) (ag rfl (aw rfl cE (S2.bc 1 rfl rfl)) (ag rfl (az rfl dR rfl aY aX) (ag rfl (aw rfl aG (S2.bc 0 rfl rfl)) (ag rfl (cN c rfl fX aC) (ag rfl (aU [_,_,_,_,_] rfl b6 fN (aC.j6 S2.um (e:=c) (by first|omega|(simp only[ls];omega)) (j:=0) ⟨rfl,rfl,rfl,rfl,rfl,trivial⟩)) ?_)))))))
 refine aj rfl (bW (l:=[_,_,_,_,_]) rfl rfl rfl vt rfl S2 ?_)
 intro dE w3 S3;clear S2
 refine aj rfl (bH 0 [_,_,_,_,_] [_,_,_,_,_] [_,_,_] rfl S3 rfl rfl fN rfl rfl ?_)
 intro w4 S4;clear S3
 refine bM [3,5] rfl (ar (ag rfl (az rfl dR rfl aY aX) (ag rfl (aw rfl aG (S4.bc 1 rfl rfl)) (ax [5,13] rfl (bg (ar (af 2 rfl (ax [5,13,14] rfl ?_))))))))
 refine bp rfl (fun jf=>?_) (fun jf=>?_)
 ·refine ar (ag rfl (az rfl b6 rfl aY aX) (ag rfl (aw rfl aG (S4.bc 0 rfl rfl)) (af 1 rfl (ax [4] rfl (bU hC rfl ?_)))))
  exact⟨_,rfl,(S4.pick [] [] (by decide) trivial),(by first|(obtain rfl:k=0:=(by omega);rfl)|(obtain rfl:k=1:=(by omega);rfl)|(obtain rfl:k=2:=(by omega);rfl)|(obtain rfl:k=3:=(by omega);rfl))⟩
 ·refine ar (af 2 rfl (ax [5,13,18] rfl ?_))
  refine bp rfl (fun F9=>?_) (fun F9=>?_)
  ·refine ar (ag rfl (az rfl b6 rfl aY aX) (ag rfl (aw rfl aG (S4.bc 0 rfl rfl)) (af 1 rfl (ax [4] rfl (bU hC rfl ?_)))))
   exact⟨_,rfl,(S4.pick [] [] (by decide) trivial),(by first|(obtain rfl:k=0:=(by omega);rfl)|(obtain rfl:k=1:=(by omega);rfl)|(obtain rfl:k=2:=(by omega);rfl)|(obtain rfl:k=3:=(by omega);rfl))⟩
  ·refine ar (af 2 rfl (ax [5,22] rfl ?_))
   refine bp rfl (fun Bn=>?_) (fun Bn=>?_)
   ·refine ar (ag rfl (az rfl b6 rfl aY aX) (ag rfl (aw rfl aG (S4.bc 0 rfl rfl)) (af 1 rfl (ax [4] rfl (bU hC rfl ?_)))))
    exact⟨_,rfl,(S4.pick [] [] (by decide) trivial),(by first|(obtain rfl:k=0:=(by omega);rfl)|(obtain rfl:k=1:=(by omega);rfl)|(obtain rfl:k=2:=(by omega);rfl)|(obtain rfl:k=3:=(by omega);rfl))⟩
   ·refine aV (bE (cP [5] rfl (ag rfl (az rfl b6 rfl aY aX) (ag rfl (aw rfl aG (S4.bc 0 rfl rfl)) (af 1 rfl (ax [4] rfl (bU hC rfl ?_)))))))
    exact⟨_,rfl,(S4.pick [] [] (by decide) trivial),(by first|(obtain rfl:k=0:=(by omega);rfl)|(obtain rfl:k=1:=(by omega);rfl)|(obtain rfl:k=2:=(by omega);rfl)|(obtain rfl:k=3:=(by omega);rfl))⟩
noncomputable def Z2h:=Tryz.f33.body.getD .skip
set_option maxRecDepth 10000 in
theorem Mg{w:World}{M:Hp}{X:Fr}(d:Dg){bz:Option Addr}{bw:Nat}(c k:Nat)(aC:aJ bu (M.un X.h) bz bw d.ae)(hc:c<d.ae.length)(hk:k<4)(S:SH w M X []):Cq Tryz.prog 33 [.agg [.slice bz d.ae.length bw,.int .i64 d.loops].toArray,.agg [.int .i64 (c:Int),.int .i64 (k:Int)].toArray] w M X (fun u=>u=.bool (bO d c k)):=by
 unfold Cq
 have iL:d.ae.length*40<=140737488355328:=aC.room
 refine cw (b:=Z2h) Tryz.func33 rfl Tryz.ntmps33 rfl (fun C hC=>(cB [0,1] rfl (ar (aj rfl (dx (l:=[_,_]) rfl rfl rfl rfl rfl S ?_)))))
 intro aP w1 S1;clear S
 refine aj rfl (dx (l:=[_,_]) rfl rfl rfl rfl rfl S1 ?_)
 intro bJ w2 S2;clear S1
 refine af 1 rfl (bL [2,3] rfl (ag rfl (az rfl dR rfl aY aX) (ag rfl (aw rfl aG (S2.bc 0 rfl rfl)) (af 2 rfl ?_))))
 refine eN (t:=8) rfl (fun hg8=>?_) (fun hg8=>?_)
 ·refine af 6 rfl (af 6 rfl (af 6 rfl (af 6 rfl (af 5 rfl (ax [4] rfl (bU hC rfl ?_))))))
  exact⟨_,rfl,(S2.pick [] [] (by decide) trivial),(by have e0:k=0\/k=1\/k=2\/k=3:=(by omega);rcases e0 with rfl|rfl|rfl|rfl<;>first|(exfalso;omega)|(show Value.bool _=_;unfold bO kS;simp[*]))⟩
 ·refine b8 rfl (az rfl dR rfl aY aX) (b8 rfl (aw rfl aG (S2.bc 0 rfl rfl)) (af 2 rfl ?_))
  refine eN (t:=12) rfl (fun ajm=>?_) (fun ajm=>?_)
  ·refine b8 rfl (az rfl aM rfl dN dM) (b8 rfl (aw rfl cE (S2.bc 1 rfl rfl)) (b8 rfl (az rfl dR rfl aY aX) (b8 rfl (aw rfl aG (S2.bc 0 rfl rfl)) (b8 rfl (cN c rfl fX aC) (b8 rfl (az rfl b6 rfl lM lJ) (b8 rfl (aw rfl gY (aC.cell S2.um (i:=c) (by first|omega|(simp only[ls];omega)) 4 rfl rfl)) ?_))))))
   refine af 4 rfl ?_
   refine uE (t:=23) rfl (fun OZ=>?_) (fun OZ=>?_)
   ·simp only[Bool.and_eq_true,Bool.or_eq_true,Bool.and_eq_false_iff,Bool.or_eq_false_iff,decide_eq_true_eq,decide_eq_false_iff_not,Bool.not_eq_true',Bool.not_eq_false']at OZ
    refine af 6 rfl (af 6 rfl (af 2 rfl (ax [4] rfl (bU hC rfl ?_))))
    exact⟨_,rfl,(S2.pick [] [] (by decide) trivial),(by have e0:k=0\/k=1\/k=2\/k=3:=(by omega);rcases e0 with rfl|rfl|rfl|rfl<;>first|(exfalso;omega)|(show Value.bool _=_;unfold bO kS;simp[*]))⟩
   ·simp only[Bool.and_eq_true,Bool.or_eq_true,Bool.and_eq_false_iff,Bool.or_eq_false_iff,decide_eq_true_eq,decide_eq_false_iff_not,Bool.not_eq_true',Bool.not_eq_false']at OZ
    refine b8 rfl (az rfl dR rfl aY aX) (b8 rfl (aw rfl aG (S2.bc 0 rfl rfl)) (af 2 rfl ?_))
    refine eN (t:=27) rfl (fun A7=>?_) (fun A7=>?_)
    ·refine b8 rfl (az rfl aM rfl dN dM) (b8 rfl (aw rfl cE (S2.bc 1 rfl rfl)) (b8 rfl (az rfl dR rfl aY aX) (b8 rfl (aw rfl aG (S2.bc 0 rfl rfl)) (b8 rfl (cN c rfl fX aC) (b8 rfl (az rfl b6 rfl lM lJ) (b8 rfl (aw rfl gY (aC.cell S2.um (i:=c) (by first|omega|(simp only[ls];omega)) 4 rfl rfl)) ?_))))))
     refine af 3 rfl (ax [4] rfl (bU hC rfl ?_))
     exact⟨_,rfl,(S2.pick [] [] (by decide) trivial),(by have e0:k=0\/k=1\/k=2\/k=3:=(by omega);rcases e0 with rfl|rfl|rfl|rfl<;>first|(exfalso;omega)|(show Value.bool _=_;unfold bO kS;simp[*]))⟩
    ·refine af 6 rfl (af 4 rfl (ax [4] rfl (bU hC rfl ?_)))
     exact⟨_,rfl,(S2.pick [] [] (by decide) trivial),(by have e0:k=0\/k=1\/k=2\/k=3:=(by omega);rcases e0 with rfl|rfl|rfl|rfl<;>first|(exfalso;omega)|(show Value.bool _=_;unfold bO kS;simp[*]))⟩
  ·refine af 6 rfl (af 5 rfl (b8 rfl (az rfl dR rfl aY aX) (b8 rfl (aw rfl aG (S2.bc 0 rfl rfl)) (af 2 rfl ?_))))
   refine eN (t:=27) rfl (fun A7=>?_) (fun A7=>?_)
   ·refine b8 rfl (az rfl aM rfl dN dM) (b8 rfl (aw rfl cE (S2.bc 1 rfl rfl)) (b8 rfl (az rfl dR rfl aY aX) (b8 rfl (aw rfl aG (S2.bc 0 rfl rfl)) (b8 rfl (cN c rfl fX aC) (b8 rfl (az rfl b6 rfl lM lJ) (b8 rfl (aw rfl gY (aC.cell S2.um (i:=c) (by first|omega|(simp only[ls];omega)) 4 rfl rfl)) ?_))))))
    refine af 3 rfl (ax [4] rfl (bU hC rfl ?_))
    exact⟨_,rfl,(S2.pick [] [] (by decide) trivial),(by have e0:k=0\/k=1\/k=2\/k=3:=(by omega);rcases e0 with rfl|rfl|rfl|rfl<;>first|(exfalso;omega)|(show Value.bool _=_;unfold bO kS;simp[*]))⟩
   ·refine af 6 rfl (af 4 rfl (ax [4] rfl (bU hC rfl ?_)))
    exact⟨_,rfl,(S2.pick [] [] (by decide) trivial),(by have e0:k=0\/k=1\/k=2\/k=3:=(by omega);rcases e0 with rfl|rfl|rfl|rfl<;>first|(exfalso;omega)|(show Value.bool _=_;unfold bO kS;simp[*]))⟩
noncomputable def Z2i:=Tryz.f36.body.getD .skip
set_option maxHeartbeats 1000000 in
set_option maxRecDepth 10000 in
theorem sN{w:World}{M:Hp}{X:Fr}(d:Dg){bz:Option Addr}{bw:Nat}(a:Int)(back:Bool)(aC:aJ bu (M.un X.h) bz bw d.ae)(S:SH w M X []):Cq Tryz.prog 36 [.agg [.slice bz d.ae.length bw,.int .i64 d.loops].toArray,.int .i64 a,.bool back] w M X (fun u=>u=.agg (uO (aF d a back)).toArray):=by
 unfold Cq
 have iL:d.ae.length*40<=140737488355328:=aC.room
 refine cw (b:=Z2i) Tryz.func36 rfl Tryz.ntmps36 rfl (fun C hC=>(cB [0,1,2] rfl (ar (aj rfl (dx (l:=[_,_]) rfl rfl rfl rfl rfl S ?_)))))
 intro aP w1 S1;clear S
 refine aj rfl (bW (l:=[_,_]) rfl rfl rfl pF rfl S1 ?_)
 intro bJ w2 S2;clear S1
 refine bM [1,2,3,6] rfl (ar (af 1 rfl (aB (bK (bg ?_)))))
 refine ck (fun aZ au aR=>∃(i:Nat),aZ=d.ae.length-i/\Env 38 [(1,.int .i64 a),(2,.bool back),(3,.pointer (some ⟨aP,0,none⟩)),(6,.pointer (some ⟨bJ,0,none⟩)),(7,.int .i64 (i:Int))] au/\SH aR M X [Rs.box bJ 80 [.int .i64 0,.int .i64 0],Rs.box aP 24 [.slice bz d.ae.length bw,.int .i64 d.loops]]/\i<=d.ae.length/\(∀j,j<4*i->jh d a back j=false)) rfl ?_ ?_
 ·intro au aq
  refine⟨_,⟨0,rfl,aq.su rfl,S2.pick [0,1] [_,_] (by decide) ⟨rfl,rfl,trivial⟩,?dh,?dC⟩⟩
  case dh=>omega
  case dC=>(intro j hj;omega)
 ·rintro m1 a1 w3 ⟨i,rfl,bN,S3,hi,hno⟩
  clear S2
  refine cy bN ?_
  clear bN a1
  refine cJ (ar (af 1 rfl (ag rfl (az rfl aM rfl dN dM) (ag rfl (aw rfl cE (S3.bc 1 rfl rfl)) (ag rfl (cK rfl cE) (af 1 rfl (ax [1,2,3,6,7,14] rfl ?_)))))))
  refine bp rfl (fun jf=>?_) (fun jf=>?_)
  ·refine aV (bC [1,2,3,6,7] rfl (bg (ar (af 1 rfl (aB (bK (bg ?_)))))))
   refine ck (fun aZ au aR=>∃(k:Nat),aZ=4-k/\Env 38 [(1,.int .i64 a),(2,.bool back),(3,.pointer (some ⟨aP,0,none⟩)),(6,.pointer (some ⟨bJ,0,none⟩)),(7,.int .i64 (i:Int)),(8,.int .i64 (k:Int))] au/\SH aR M X [Rs.box bJ 80 [.int .i64 0,.int .i64 0],Rs.box aP 24 [.slice bz d.ae.length bw,.int .i64 d.loops]]/\k<=4/\(∀j,j<4*i+k->jh d a back j=false)) rfl ?_ ?_
   ·intro au aq
    refine⟨_,⟨0,rfl,aq.su rfl,S3.pick [0,1] [_,_] (by decide) ⟨rfl,rfl,trivial⟩,?dv,?dL⟩⟩
    case dv=>omega
    case dL=>(intro j hj;exact hno j (by omega))
   ·rintro m2 a2 w4 ⟨k,rfl,cU,S4,hk,FO⟩
    clear S3
    refine cy cU ?_
    clear cU a2
    refine cJ (ar (af 2 rfl (ax [1,2,3,6,7,8,18] rfl ?_)))
    refine bp rfl (fun F9=>?_) (fun F9=>?_)
    ·refine aV (bC [1,2,3,6,7,8] rfl (bg (ar (af 2 rfl (ag rfl (run_build (l:=[_,_]) rfl rfl rq rfl rfl) (aj rfl (bW (l:=[_,_]) rfl rfl rfl pF rfl S4 ?_)))))))
     intro dE w5 S5;clear S4
     refine aj rfl (bH 0 [_,_] [_,_] [_,_,_] rfl S5 rfl rfl iM rfl rfl ?_)
     intro w6 S6;clear S5
     refine bL [1,2,3,6,7,8,9] rfl (ag rfl (aU [_,_] rfl aM aN (S6.bs 2 rfl rfl)) (ag rfl (aU [_,_] rfl dR iM (S6.bs 0 rfl rfl)) (aj rfl (dU rfl rfl rfl rfl rfl rfl rfl ux S6 (uB d i k (aC.mono S6.bn) (by omega) (by omega) S6.aT) ?_))))
     rintro _ w7 S7 rfl;clear S6
     refine af 3 rfl ?_
     refine eN (t:=29) rfl (fun ajg=>?_) (fun ajg=>?_)
     ·refine b8 rfl (aU [_,_] rfl aM aN (S7.bs 2 rfl rfl)) (b8 rfl (aU [_,_] rfl dR iM (S7.bs 0 rfl rfl)) (zq 8 9 rfl rfl rfl rfl rfl rfl rfl rfl (dU rfl rfl rfl rfl rfl rfl rfl Pp S7 (Mg d i k (aC.mono S7.bn) (by omega) (by omega) S7.aT) ?_)))
      rintro _ w8 S8 rfl;clear S7
      refine af 1 rfl (b8 rfl (adp rfl rfl rfl gY) (af 1 rfl (ax [1,2,3,6,7,8,9,35] rfl ?_)))
      refine gB rfl (fun mQ=>?_) (fun mQ=>?_)
      ·refine ar (ag rfl (aU [_,_] rfl dR iM (S8.bs 0 rfl rfl)) (aj rfl (bH 1 [_,_] [_,_] [_,_,_] rfl S8 rfl rfl iM rfl rfl ?_)))
       intro w9 S9;clear S8
       refine ax [6] rfl (dI hC [_] rfl rfl ⟨⟨_,rfl,dK (us:=[_,_]) dR rfl iM (S9.bs 1 rfl rfl)⟩,trivial⟩ ?_)
       exact⟨_,rfl,(S9.pick [] [] (by decide) trivial),(by first|(rw[R4 (fun j hj=>hno j (by omega))];rfl)|(rw[Lm (j:=4*i+k) (by omega) (by rw[yw (by omega),decide_eq_true (by omega)];simpa using mQ) FO,show(4*i+k)/4=i by omega,show(4*i+k)%4=k by omega];rfl))⟩
      ·refine aV (bE (aW [1,2,3,6,7,8] rfl (aH (af 1 rfl (ag rfl (bj rfl) (af 1 rfl (aB (br ?_))))))))
       intro au aq
       refine⟨_,?kr,⟨k+1,rfl,aq.su rfl,S8.pick [1,2] [_,_] (by decide) ⟨rfl,rfl,trivial⟩,?fg,?fR⟩⟩
       case fg=>omega
       case fR=>(intro j hj;by_cases h:j=4*i+k;(subst h;rw[yw (by omega)];first|(rw[decide_eq_false (by omega)];rfl)|(rw[Bool.and_eq_false_iff];right;simpa using mQ));exact FO j (by omega))
       case kr=>omega
     ·refine af 6 rfl (ax [1,2,3,6,7,8,9,35] rfl (sD (aV (bE (aW [1,2,3,6,7,8] rfl (aH (af 1 rfl (ag rfl (bj rfl) ?_))))))))
      refine af 1 rfl (aB (br ?_))
      intro au aq
      refine⟨_,?jr,⟨k+1,rfl,aq.su rfl,S7.pick [1,2] [_,_] (by decide) ⟨rfl,rfl,trivial⟩,?fJ,?fZ⟩⟩
      case fJ=>omega
      case fZ=>(intro j hj;by_cases h:j=4*i+k;(subst h;rw[yw (by omega)];first|(rw[decide_eq_false (by omega)];rfl)|(rw[Bool.and_eq_false_iff];right;simpa using mQ));exact FO j (by omega))
      case jr=>omega
    ·refine bX rfl (bE (aW [1,2,3,6,7] rfl (aH (af 1 rfl (ag rfl (bj rfl) (af 1 rfl (aB (br ?_))))))))
     intro au aq
     refine⟨_,?jq,⟨i+1,rfl,aq.su rfl,S4.pick [0,1] [_,_] (by decide) ⟨rfl,rfl,trivial⟩,?fI,?fY⟩⟩
     case fI=>omega
     case fY=>(intro j hj;exact FO j (by omega))
     case jq=>omega
  ·refine bX rfl (cP [6] rfl (ag rfl (run_build (l:=[_,_]) rfl rfl rq rfl rfl) (aj rfl (bH 0 [_,_] [_,_] [_,_] rfl S3 rfl rfl iM rfl rfl ?_))))
   intro ld bQ;clear S3
   refine ax [6] rfl (dI hC [_] rfl rfl ⟨⟨_,rfl,dK (us:=[_,_]) dR rfl iM (bQ.bs 0 rfl rfl)⟩,trivial⟩ ?_)
   exact⟨_,rfl,(bQ.pick [] [] (by decide) trivial),(by first|(rw[R4 (fun j hj=>hno j (by omega))];rfl)|(rw[Lm (j:=4*i+k) (by omega) (by rw[yw (by omega),decide_eq_true (by omega)];simpa using mQ) FO,show(4*i+k)/4=i by omega,show(4*i+k)%4=k by omega];rfl))⟩
noncomputable def Z2j:=Tryz.f64.body.getD .skip
set_option maxRecDepth 10000 in
theorem aa8{w:World}{M:Hp}{X:Fr}(d:Dg){bz:Option Addr}{bw:Nat}(x:Da)(aC:aJ bu (M.un X.h) bz bw d.ae)(hab:aO d=true)(hx:okD d x)(S:SH w M X []):Cq Tryz.prog 64 [.agg [.slice bz d.ae.length bw,.int .i64 d.loops].toArray,.agg [.int .i64 x.a,.bool x.b].toArray] w M X (fun u=>u=.agg (D6 (jQ d x)).toArray):=by
 unfold Cq
 have iL:d.ae.length*40<=140737488355328:=aC.room
 obtain⟨wk,zG,uX,Qt,Qs⟩:=fO hab hx x.b
 have XG:((aF d x.a x.b).2+3)%4<4:=Nat.mod_lt _ (by decide)
 refine cw (b:=Z2j) Tryz.func64 rfl Tryz.ntmps64 rfl (fun C hC=>(cB [0,1] rfl (ar (aj rfl (dx (l:=[_,_]) rfl rfl rfl rfl rfl S ?_)))))
 intro aP w1 S1;clear S
 refine aj rfl (dx (l:=[_,_]) rfl rfl rfl rfl rfl S1 ?_)
 intro bJ w2 S2;clear S1
 refine aj rfl (bW (l:=[_,_]) rfl rfl rfl ra rfl S2 ?_)
 intro dE w3 S3;clear S2
 refine bL [2,3,4] rfl (ag rfl (aU [_,_] rfl aM aN (S3.bs 2 rfl rfl)) (ag rfl (az rfl eA rfl aY aX) (ag rfl (aw rfl aG (S3.bc 1 rfl rfl)) (ag rfl (az rfl eA rfl lM lJ) (ag rfl (aw rfl gY (S3.bc 1 rfl rfl)) (aj rfl (dU rfl rfl rfl rfl rfl rfl rfl sJ S3 (sN d x.a x.b (aC.mono S3.bn) S3.aT) ?_)))))))
 rintro _ w4 S4 rfl;clear S3
 refine aj rfl (bW (l:=[_,_]) rfl rfl rfl pF rfl S4 ?_)
 intro lK w5 S5;clear S4
 refine aj rfl (bH 0 [_,_] [_,_] [_,_,_,_] rfl S5 rfl rfl iM rfl rfl ?_)
 intro w6 S6;clear S5
 refine bL [2,4,5] rfl (ag rfl (az rfl dR rfl aY aX) (ag rfl (aw rfl aG (S6.bc 0 rfl rfl)) (ag rfl (az rfl dR rfl aY aX) (ag rfl (aw rfl aG (S6.bc 0 rfl rfl)) (ag rfl (bj rfl) (ag rfl (rF rfl rfl rfl (by first|omega|(simp only[ls];omega))) ?_))))))
 refine dz 18 (.int .i64 ((((aF d x.a x.b).2+3)%4:Nat):Int)) rfl (int_eq (by omega)) ?_
 refine ag rfl (run_build (l:=[_,_]) rfl rfl rq rfl rfl) (aj rfl (bW (l:=[_,_]) rfl rfl rfl pF rfl S6 ?_))
 intro iI w7 S7;clear S6
 refine aj rfl (bH 0 [_,_] [_,_] [_,_,_,_,_] rfl S7 rfl rfl iM rfl rfl ?_)
 intro w8 S8;clear S7
 refine bM [2,4,6] rfl (dH S8 8 ?_)
 clear S8
 refine ay 0 rfl (fun ah Sz=>aU [_,_] rfl aM aN (Sz.suf.bs 4 rfl rfl)) (ay 1 rfl (fun ah Sz=>aU [_,_] rfl dR iM (Sz.suf.bs 0 rfl rfl)) (dQ 2 rfl (fun ah Sz=>dZ rfl rfl rfl rfl rfl ux Sz (uB d ((aF d x.a x.b).1) (((aF d x.a x.b).2+3)%4) ((aC.mono (Hp.aD ah Sz.mx)).mono Sz.bn) (by omega) (by omega) Sz.aT)) ?_))
 refine ay 3 rfl (fun ah Sz=>aU [_,_] rfl aM aN (Sz.suf.bs 4 rfl rfl)) (ay 4 rfl (fun ah Sz=>aU [_,_] rfl dR iM (Sz.suf.bs 0 rfl rfl)) (dQ 5 rfl (fun ah Sz=>dZ rfl rfl rfl rfl rfl Pp Sz (Mg d ((aF d x.a x.b).1) (((aF d x.a x.b).2+3)%4) ((aC.mono (Hp.aD ah Sz.mx)).mono Sz.bn) (by omega) (by omega) Sz.aT)) ?_))
 refine ay 6 rfl (fun ah Sz=>run_build (l:=[_,_]) rfl rfl FH rfl rfl) (cm 7 rfl (fun pU bY=>((bH 2 [_,_] [_,_] [_,_,_,_,_] rfl bY rfl rfl gD rfl rfl ?_))))
 intro vP dW;clear bY
 refine ij dW ?_;clear dW
 change WA _ _ _ _ _ _ _ _ _ _ _ _ [_,_,_,_,_]
 refine cD (fun BO ek=>(aW [4] rfl (dI hC [_] rfl rfl ⟨⟨_,rfl,dK (us:=[_,_]) eA rfl gD (ek.bs 2 rfl rfl)⟩,trivial⟩ ?_)))
 exact⟨_,rfl,(ek.pick [] [] (by decide) trivial),rfl⟩
noncomputable def Z2k:=Tryz.f63.body.getD .skip
set_option maxRecDepth 10000 in
theorem R5{w:World}{M:Hp}{X:Fr}(x:Da)(hx:1<=x.a/\x.a<=1000)(S:SH w M X []):Cq Tryz.prog 63 [.agg [.int .i64 x.a,.bool x.b].toArray] w M X (fun u=>u=.int .i64 (lL x:Int)):=by
 unfold Cq
 refine cw (b:=Z2k) Tryz.func63 rfl Tryz.ntmps63 rfl (fun C hC=>(cB [0] rfl (ar (aj rfl (dx (l:=[_,_]) rfl rfl rfl rfl rfl S ?_)))))
 intro aP w1 S1;clear S
 refine af 1 rfl (bM [1] rfl (ar (ag rfl (az rfl eA rfl lM lJ) (ag rfl (aw rfl gY (S1.bc 0 rfl rfl)) (ax [1,4] rfl ?_)))))
 refine gB rfl (fun hb4=>?_) (fun hb4=>?_)
 ·refine ar (ag rfl (az rfl eA rfl aY aX) (ag rfl (aw rfl aG (S1.bc 0 rfl rfl)) (ag rfl (zV rfl rfl rfl (by first|omega|(simp only[ls];omega))) ?_)))
  refine ag rfl (bj rfl) (af 1 rfl (ax [2] rfl (bU hC rfl ?_)))
  exact⟨_,rfl,(S1.pick [] [] (by decide) trivial),(by show Value.int _ _=_;refine congrArg (Value.int .i64) ?_;unfold lL;rw[hb4];first|(rw[if_pos rfl];omega)|(rw[if_neg Bool.false_ne_true];omega))⟩
 ·refine aV (cP [1] rfl (ag rfl (az rfl eA rfl aY aX) (ag rfl (aw rfl aG (S1.bc 0 rfl rfl)) (ag rfl (zV rfl rfl rfl (by first|omega|(simp only[ls];omega))) ?_))))
  refine af 1 rfl (ax [2] rfl (bU hC rfl ?_))
  exact⟨_,rfl,(S1.pick [] [] (by decide) trivial),(by show Value.int _ _=_;refine congrArg (Value.int .i64) ?_;unfold lL;rw[hb4];first|(rw[if_pos rfl];omega)|(rw[if_neg Bool.false_ne_true];omega))⟩
noncomputable def Z2l:=Tryz.f35.body.getD .skip
set_option maxHeartbeats 1000000 in
set_option maxRecDepth 10000 in
theorem HV{w:World}{M:Hp}{X:Fr}(d:Dg){bz:Option Addr}{bw:Nat}(aC:aJ bu (M.un X.h) bz bw d.ae)(hn:d.ae.length<=16)(hab:aO d=true)(S:SH w M X []):Ct Tryz.prog 35 [.agg [.slice bz d.ae.length bw,.int .i64 d.loops].toArray] w M X (MZ d):=by
 unfold Ct
 have iL:d.ae.length*40<=140737488355328:=aC.room
 refine cw (b:=Z2l) Tryz.func35 rfl Tryz.ntmps35 rfl (fun C hC=>(cB [0] rfl (ar (aj rfl (dx (l:=[_,_]) rfl rfl rfl rfl rfl S ?_)))))
 intro aP w1 S1;clear S
 refine af 1 rfl (bL [1] rfl (ag rfl (az rfl aM rfl dN dM) (ag rfl (aw rfl cE (S1.bc 0 rfl rfl)) (ag rfl (cK rfl cE) (ag rfl (zV rfl rfl rfl (by first|omega|(simp only[ls];omega))) ?_)))))
 refine ag rfl (bj rfl) (af 1 rfl (bL [1,3] rfl (af 1 rfl (aj rfl (sP (C:=lF) ((4*(d.ae.length:Int)).toNat+2) rfl rfl rfl rfl rfl pI (by first|rfl|omega) (by show _*1<=_;first|omega|(simp only[ls];omega)) S1 ?_)))))
 intro s6 w2 S2;clear S1
 refine af 1 rfl (bL [1,3,4] rfl (af 1 rfl (aB (di (ar (af 1 rfl (aB (bK ?_))))))))
 refine bg ?_
 have S3:=S2.jI (eZ 87);clear S2
 refine ck (fun aZ au aR=>∃(k:Nat) (seen:List Bool) (lY:List (List Int)) (vs:List ei) (uJ:Value) (eV:Value) (M1:Hp),M.le M1/\aZ=4*d.ae.length-k/\Env 53 [(1,.pointer (some ⟨aP,0,none⟩)),(3,.int .i64 ((4*(d.ae.length:Int))+2)),(4,uJ),(5,eV),(6,.int .i64 ((k+2:Nat):Int))] au/\SH aR M1 X [Rs.row (eZ 87) eV vs,Rs.row lF uJ seen,Rs.box aP 24 [.slice bz d.ae.length bw,.int .i64 d.loops]]/\k<=4*d.ae.length/\gG d k=(seen,lY)/\ia ib M1 vs (lY.map jY)) rfl ?_ ?_
 ·intro au aq
  refine⟨_,⟨0,_,[],_,_,_,_,Hp.le_refl _,rfl,aq.su rfl,S3.pick [0,1,2] [_,_,_] (by decide) ⟨rfl,rfl,rfl,trivial⟩,?dh,?dC,?jm⟩⟩
  case dh=>omega
  case dC=>(unfold gG;first|rfl|(congr 1))
  case jm=>first|exact ia.eO|(rw[e9];exact ia.eO)
 ·rintro m1 a1 w3 ⟨k,seen,lY,vs,uJ,eV,M1,bh,rfl,bN,S4,hk,hfn,jk⟩
  clear S3
  refine cy bN ?_
  clear bN a1
  replace aC:=aC.mono (Hp.aD bh S4.mx)
  have hvs:=jk.1
  rw[List.length_map]at hvs
  have pz:=HB d k
  rw[hfn]at pz
  replace pz:lY.length<=k:=pz
  have hsl:seen.length=4*d.ae.length+2:=by have h9:=DJ d k;rw[hfn]at h9;exact h9
  refine cJ (ar (af 3 rfl (ax [1,3,4,5,6,18] rfl ?_)))
  refine bp rfl (fun F9=>?_) (fun F9=>?_)
  ·refine aV (bC [1,3,4,5,6] rfl (bg (cJ (ar (af 2 rfl (ag rfl (bS (i:=1) (k+2) rfl pI S4 rfl) (ag rfl (aw rfl gY (S4.dS (i:=1) (e:=k+2) (j:=0) rfl (by first|omega|(simp only[ls];omega)) rfl rfl)) ?_)))))))
   refine ax [1,3,4,5,6,24] rfl ?_
   refine gB rfl (fun rA=>?_) (fun rA=>?_)
   ·refine bX rfl (aW [1,3,4,5,6] rfl (aH (af 1 rfl (ag rfl (bj rfl) (af 1 rfl (aB (br ?_)))))))
    intro au aq
    refine⟨_,?fK,⟨k+1,_,lY,_,_,_,_,(bh),rfl,aq.su rfl,S4.pick [0,1,2] [_,_,_] (by decide) ⟨rfl,rfl,rfl,trivial⟩,?dv,?dL,?jl⟩⟩
    case dv=>omega
    case dL=>first|exact xL hfn rA|exact xK hfn (by simpa using rA) (hrg.trans (K4 (by simpa using oa)))
    case jl=>first|exact jk|(rw[e9];exact jk)
    case fK=>omega
   ·refine aV (cP [1,3,4,5,6] rfl (af 1 rfl (aB (sw (af 1 rfl (ag rfl (Ul rfl rfl rfl (by first|omega|(simp only[ls];omega))) ?_))))))
    refine af 1 rfl (ag rfl (rF rfl rfl rfl (by first|omega|(simp only[ls];omega))) ?_)
    refine af 1 rfl (dz 26 (.int .i64 ((dA (k+2)).a)) rfl (int_eq (by show _=(((k+2)/2:Nat):Int);omega)) ?_)
    refine dz 29 (.bool ((dA (k+2)).b)) rfl (congrArg Value.bool (by show _=decide _;exact decide_eq_decide.2 (by omega))) ?_
    refine ag rfl (run_build (l:=[_,_]) rfl rfl FH rfl rfl) (aj rfl (bW (l:=[_,_]) rfl rfl rfl ra rfl S4 ?_))
    intro bJ w4 S5;clear S4
    refine aj rfl (bH 0 [_,_] [_,_] [_,_,_,_] rfl S5 rfl rfl gD rfl rfl ?_)
    intro w5 S6;clear S5
    refine bM [1,3,4,5,6,7,8] rfl (bg ?_)
    have S7:=S6.jI ib;clear S6
    refine ck (fun aZ au aR=>∃(jJ:List Bool) (x:Nat) (y:Da) (acc:List Int) (qj:List Da) (ug:Value) (Ak:Value),aZ=free jJ/\Env 53 [(1,.pointer (some ⟨aP,0,none⟩)),(3,.int .i64 ((4*(d.ae.length:Int))+2)),(4,ug),(5,eV),(6,.int .i64 ((k+2:Nat):Int)),(7,Ak),(8,.pointer (some ⟨bJ,0,none⟩))] au/\SH aR M1 X [Rs.row ib Ak qj,Rs.box bJ 33 [.int .i64 y.a,.bool y.b],Rs.row (eZ 87) eV vs,Rs.row lF ug jJ,Rs.box aP 24 [.slice bz d.ae.length bw,.int .i64 d.loops]]/\ju (fP d) seen (k+2) []=ju (fP d) jJ x acc/\qj=jY acc/\(2<=x/\x<4*d.ae.length+2)/\jJ.length=4*d.ae.length+2/\y=dA x/\acc.length+free jJ<=100) rfl ?_ ?_
    ·intro au aq
     refine⟨_,⟨seen,k+2,(dA (k+2)),[],_,_,_,rfl,aq.su rfl,S7.pick [0,1,2,3,4] [_,_,_,_,_] (by decide) ⟨rfl,rfl,rfl,rfl,rfl,trivial⟩,?fg,?fR,?ko,?mI,?wO,?Az⟩⟩
     case fg=>rfl
     case fR=>rfl
     case ko=>omega
     case mI=>exact hsl
     case wO=>rfl
     case Az=>(have h8:free seen<=seen.length:=List.countP_le_length;simp only[List.length_nil];omega)
    ·rintro m2 a2 w6 ⟨jJ,x,y,acc,qj,ug,Ak,rfl,cU,S8,hrg,Av,hx,hs2,hy,hroom⟩
     clear S7
     refine cy cU ?_
     clear cU a2
     have hyk:okD d y:=by rw[hy];exact nE hx
     have am1:=hyk.1
     have am0:=hyk.2
     have hrl:qj.length=acc.length:=by rw[Av];simp[jY]
     have wh:lL y=x:=by rw[hy];exact wL x
     refine cJ (ar (af 1 rfl (ag rfl (aU [_,_] rfl eA gD (S8.bs 1 rfl rfl)) (aj rfl (dU rfl rfl rfl rfl rfl rfl rfl Yl S8 (R5 y ((by omega)) S8.aT) ?_)))))
     rintro _ w7 S9 rfl;clear S8
     refine dz 33 (.int .i64 (x:Int)) rfl (int_eq (by rw[wh])) ?_
     refine ag rfl (bS (i:=3) x rfl pI S9 rfl) (ag rfl (aw rfl gY (S9.dS (i:=3) (e:=x) (j:=0) rfl (by first|omega|(simp only[ls];omega)) rfl rfl)) ?_)
     refine af 1 rfl (ax [1,3,4,5,6,7,8,36] rfl ?_)
     refine gB rfl (fun oa=>?_) (fun oa=>?_)
     ·simp only[Bool.and_eq_true,Bool.or_eq_true,Bool.and_eq_false_iff,Bool.or_eq_false_iff,decide_eq_true_eq,decide_eq_false_iff_not,Bool.not_eq_true',Bool.not_eq_false']at oa
      refine aV (aW [1,3,4,5,6,7,8] rfl (bg (ar (af 1 rfl (ag rfl (aU [_,_] rfl eA gD (S9.bs 1 rfl rfl)) (aj rfl (dU rfl rfl rfl rfl rfl rfl rfl Yl S9 (R5 y ((by omega)) S9.aT) ?_)))))))
      rintro _ w8 bQ rfl;clear S9
      refine dz 39 (.int .i64 (x:Int)) rfl (int_eq (by rw[wh])) ?_
      refine ag rfl (bS (i:=3) x rfl pI bQ rfl) (aj rfl (iE (C:=lF) (i:=3) (e:=x) (j:=0) (us:=[_]) (H':=[_,_,_,_,_]) true rfl rfl bQ rfl (by first|omega|(simp only[ls];omega)) rfl rfl rfl BR rfl rfl rfl rfl ?_))
      intro w9 cz;clear bQ
      refine bL [1,3,4,5,6,7,8] rfl (af 1 rfl (ag rfl (aU [_,_] rfl eA gD (cz.bs 1 rfl rfl)) (aj rfl (eQ (C:=ib) (l:=[_,_]) rfl rfl rfl rfl mM rfl rfl rfl rfl cz ?_))))
      intro dE ld cO;clear cz
      refine aj rfl (gw (C:=ib) (i:=1) (q:=0) (⟨y.a,y.b⟩:Da) rfl rfl rfl rfl rfl rfl rfl rfl mM cO rfl rfl rfl (by show(_+1)*16<=_;first|omega|(simp only[ls];omega)) ?_)
      intro aez lI cF;clear cO
      have ct:=cF.pick [1,2,3,4,5] [_,_,_,_,_] (by decide) ⟨rfl,rfl,rfl,rfl,rfl,trivial⟩;clear cF
      refine af 1 rfl (ax [1,3,4,5,6,7,8] rfl (aH (ag rfl (aU [_,_] rfl aM aN (ct.bs 4 rfl rfl)) (ag rfl (aU [_,_] rfl eA gD (ct.bs 1 rfl rfl)) (aj rfl (dU rfl rfl rfl rfl rfl rfl rfl aj7 ct (aa8 d y (aC.mono ct.bn) (hab) ((by first|assumption|omega)) ct.aT) ?_))))))
      rintro _ nL cS rfl;clear ct
      refine aj rfl (bH 1 [_,_] [_,_] [_,_,_,_,_] rfl cS rfl rfl gD rfl rfl ?_)
      intro ng cC;clear cS
      refine aB (bE (br ?_))
      have yj:ga jJ x=false:=by simpa using oa
      have G7:=sU (seen:=jJ) (x:=x) (by omega) yj
      intro au aq
      refine⟨_,?jr,⟨jJ.set x true,fP d x,jQ d y,acc++[(x:Int)],_,_,_,rfl,aq.su rfl,cC.pick [0,1,2,3,4] [_,_,_,_,_] (by decide) ⟨rfl,rfl,rfl,rfl,rfl,trivial⟩,?fJ,?fZ,?lX,?nV,?tV,?wN⟩⟩
      case fJ=>(rw[hrg];exact zj (by omega) yj)
      case fZ=>(rw[SR,<-Av,hy])
      case lX=>exact zW hab hx
      case nV=>(rw[List.length_set];exact hs2)
      case tV=>(rw[hy,Ai hab hx])
      case wN=>(simp only[List.length_append,List.length_cons,List.length_nil];omega)
      case jr=>omega
     ·simp only[Bool.and_eq_true,Bool.or_eq_true,Bool.and_eq_false_iff,Bool.or_eq_false_iff,decide_eq_true_eq,decide_eq_false_iff_not,Bool.not_eq_true',Bool.not_eq_false']at oa
      refine bX rfl (aW [1,3,4,5,6,7] rfl (aH (af 2 rfl ?_)))
      obtain⟨M2,bZ,bY,⟨A1,c1,e1,hr1⟩⟩:=S9.gP (i:=0) (H':=[_,_,_,_,_]) rfl rfl (by show _*16<=_;first|omega|(simp only[ls];omega))
      clear S9;subst e1
      replace aC:=aC.mono (Hp.aD bZ bY.mx)
      replace jk:=jk.mono bZ
      refine aj rfl (eQ (C:=(eZ 87)) (l:=[_]) rfl rfl rfl rfl qp rfl rfl rfl rfl bY ?_)
      intro lK lH dW;clear bY
      refine aj rfl (gw (C:=(eZ 87)) (i:=3) (q:=0) (⟨A1,qj.length,c1⟩:ei) rfl rfl rfl rfl rfl rfl rfl rfl qp dW rfl rfl rfl (by show(_+1)*24<=_;first|omega|(simp only[ls];omega)) ?_)
      intro AU ow ek;clear dW
      have fM:=ek.pick [1,2,3,4,5] [_,_,_,_,_] (by decide) ⟨rfl,rfl,rfl,rfl,rfl,trivial⟩;clear ek
      have hd1:=jk.snoc (c:=c1) hr1
      refine af 1 rfl (aB (bE (aW [1,3,4,5,6] rfl (aH (af 1 rfl (ag rfl (bj rfl) (af 1 rfl (aB ?_))))))))
      refine br ?_
      have hdx:lL y=x:=by rw[hy];exact wL x
      have e9:List.map jY (lY++[acc])=List.map jY lY++[qj]:=by rw[List.map_append,show List.map jY [acc]=[qj]from by rw[Av];rfl]
      intro au aq
      refine⟨_,?jq,⟨k+1,_,(lY++[acc]),_,_,_,_,(bh.trans bZ),rfl,aq.su rfl,fM.pick [2,3,4] [_,_,_] (by decide) ⟨rfl,rfl,rfl,trivial⟩,?fI,?fY,?lW⟩⟩
      case fI=>omega
      case fY=>first|exact xL hfn rA|exact xK hfn (by simpa using rA) (hrg.trans (K4 (by simpa using oa)))
      case lW=>first|exact hd1|(rw[e9];exact hd1)
      case jq=>omega
  ·refine bX rfl (cP [5] rfl (af 2 rfl (ax [2] rfl ?_)))
   obtain⟨M3,b7,eF,⟨A2,c2,e2,hr2⟩⟩:=S4.gP (i:=0) (H':=[_,_,_]) rfl rfl (by show _*24<=_;first|omega|(simp only[ls];omega))
   clear S4;subst e2
   replace aC:=aC.mono (Hp.aD b7 eF.mx)
   replace jk:=jk.mono b7
   refine bU hC rfl ?_
   refine⟨_,rfl,_,bh.trans b7,(eF.pick [] [] (by decide) trivial),?_⟩
   obtain rfl:k=4*d.ae.length:=by omega
   have e2:ai d=lY.map jY:=by unfold ai CN;rw[hfn]
   unfold MZ
   rw[e2]
   exact⟨_,_,_,rfl,hr2,jk⟩
end Go.Proofs.YtcohmplpgcddiaaGreatDoor
