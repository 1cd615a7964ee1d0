/- Part 3 of the proof of the law TableSeeks: the walks through its functions and the plain laws that they need. -/
import Derived.Test.YtcohmplpgcddiaaGreatDoorSmZ2
import Derived.Laws.Cover3
import Derived.Laws.Pointers
import Derived.Laws.StructEq
import Derived.MapKept
import Derived.Carry
import Derived.RangeFuncNested
import Derived.RangeFuncBound
import Derived.RangeFuncCalls
import Derived.RangeFuncLeaves
import Derived.LoopNIn
set_option linter.unusedSimpArgs false
set_option linter.unusedVariables false
noncomputable section
namespace Go.Proofs.YtcohmplpgcddiaaGreatDoor
open Go.ChangeShapes Go.WideShapes Go.ChangeAt Go.RowKit
theorem ail:Hl Tryz.prog 64 106 2 16 (.agg #[.int .i64 0,.int .i64 0]):=⟨vw,by kernel_rfl,rfl,by omega,by omega⟩
def Sh(d:Dg)(w0 w:World)(p:Value)(ti tu:List (Nat×Nat)):Prop:=
 ∃g A c gi go,p=.pointer (some ⟨g,0,none⟩)/\
  cW w g 66 #[.slice A d.ae.length c,.int .i64 d.loops,.slice (some ⟨gi,0,none⟩) (2*d.ae.length+1) (2*d.ae.length+1),.slice (some ⟨go,0,none⟩) (2*d.ae.length+1) (2*d.ae.length+1)]/\
  gi≠go/\w0.heap.size<g/\
  Ow nX 68 w (w0.heap.size+1) (.slice A d.ae.length c) d.ae/\
  Ow yO 106 w (w0.heap.size+1) (.slice (some ⟨gi,0,none⟩) (2*d.ae.length+1) (2*d.ae.length+1)) ti/\
  Ow yO 106 w (w0.heap.size+1) (.slice (some ⟨go,0,none⟩) (2*d.ae.length+1) (2*d.ae.length+1)) tu
theorem Sh.kp{d:Dg}{w0 w w':World}{p:Value}{ti tu:List (Nat×Nat)}(h:Sh d w0 w p ti tu)(hk:Kp w w'):Sh d w0 w' p ti tu:=by
 obtain⟨g,A,c,gi,go,r1,r2,r3,r4,r5,r6,r7⟩:=h
 exact⟨g,A,c,gi,go,r1,r2.kp hk,r3,r4,r5.kp hk,r6.kp hk,r7.kp hk⟩
def Bs(d:Dg)(w0 w:World)(p ci co:Value)(J:Nat):Prop:=
 Sh d w0 w p (aI d false J) (aI d true J)/\∃ga gb,ci=.slice (some ⟨ga,0,none⟩) (2*d.ae.length+1) (2*d.ae.length+1)/\co=.slice (some ⟨gb,0,none⟩) (2*d.ae.length+1) (2*d.ae.length+1)/\ga≠gb/\
  iP w (w0.heap.size+1) (.slice (some ⟨ga,0,none⟩) (2*d.ae.length+1) (2*d.ae.length+1)) (iO d false J)/\iP w (w0.heap.size+1) (.slice (some ⟨gb,0,none⟩) (2*d.ae.length+1) (2*d.ae.length+1)) (iO d true J)
structure Bq(d:Dg)(b0 g:Nat)(A:Option Addr)(c gi go ga gb:Nat)(w:World)(J:Nat):Prop where
 sh:cW w g 66 #[.slice A d.ae.length c,.int .i64 d.loops,.slice (some ⟨gi,0,none⟩) (2*d.ae.length+1) (2*d.ae.length+1),.slice (some ⟨go,0,none⟩) (2*d.ae.length+1) (2*d.ae.length+1)]
 cr:Ow nX 68 w b0 (.slice A d.ae.length c) d.ae
 ti:Ow yO 106 w b0 (.slice (some ⟨gi,0,none⟩) (2*d.ae.length+1) (2*d.ae.length+1)) (aI d false J)
 tu:Ow yO 106 w b0 (.slice (some ⟨go,0,none⟩) (2*d.ae.length+1) (2*d.ae.length+1)) (aI d true J)
 ci:iP w b0 (.slice (some ⟨ga,0,none⟩) (2*d.ae.length+1) (2*d.ae.length+1)) (iO d false J)
 co:iP w b0 (.slice (some ⟨gb,0,none⟩) (2*d.ae.length+1) (2*d.ae.length+1)) (iO d true J)
 n1:gi≠go
 n2:ga≠gb
 lt:b0<=g
section
variable {d : Dg} {b0 g c gi go ga gb J : Nat} {A : Option Addr} {w w' : World}
theorem Bq.kp(h:Bq d b0 g A c gi go ga gb w J)(hk:Kp w w'):Bq d b0 g A c gi go ga gb w' J:=
 ⟨h.sh.kp hk,h.cr.kp hk,h.ti.kp hk,h.tu.kp hk,h.ci.kp hk,h.co.kp hk,h.n1,h.n2,h.lt⟩
theorem oQ{w:World}{b:Nat}{v:Value}{xs:List Int}(h:iP w b v xs):Ow Gg 3 w b v xs:=by
 unfold Ow
 rw[UQ]
 exact h
theorem iP.kept{w w':World}{b:Nat}{v:Value}{xs:List Int}{row:Option Nat}(h:iP w b v xs)(hg:Gr w w' row)(hne:v.ownBlock=none\/v.ownBlock≠row):iP w' b v xs:=World.ownsRow.kept h hg hne
theorem yG{w:World}{α:Type}{C:oK α}{E t:TypeId}{b g:Nat}{v:Value}{xs:List α}{cs:Array Value}(h:Ow C E w b v xs)(h':cW w g t cs)(hne:E≠t):some g≠v.ownBlock:=by
 rcases h.IW h' hne with h|h
 ·rw[h];simp
 ·exact fun e=>h e.symm
theorem Bq.agZ(h:Bq d b0 g A c gi go ga gb w J){a:Nat}(ha:a<2*d.ae.length+1)(hj:gj d J=a)(he:bO d (J/4) (J%4)=true):
  Bq d b0 g A c gi go ga gb (((w.setCell ⟨gi,a*2,none⟩ (.int .i64 ((J/4:Nat):Int))).setCell ⟨gi,a*2+1,none⟩ (.int .i64 ((J%4:Nat):Int))).setCell ⟨ga,a,none⟩ (.int .i64 (Go.Proofs.YtcohmplpgcddiaaGreatDoor.gi (iO d false J) a+1))) (J+1):=by
 have ht:aI d false (J+1)=(aI d false J).set a (J/4,J%4):=Tt hj (by simp[he])
 have hu:aI d true (J+1)=aI d true J:=Si he
 have hc:iO d false (J+1)=(iO d false J).set a (Go.Proofs.YtcohmplpgcddiaaGreatDoor.gi (iO d false J) a+1):=TW hj (by simp[he])
 have ho:iO d true (J+1)=iO d true J:=SV he
 have s1:=h.ti.Xj rfl (i:=a) (by rw[jR];exact ha) (.int .i64 ((J/4:Nat):Int)) (.int .i64 ((J%4:Nat):Int)) (J/4,J%4) rfl
 have g1:=UM (w:=w) (g:=gi) (i:=a*2) (j:=a*2+1) (.int .i64 ((J/4:Nat):Int)) (.int .i64 ((J%4:Nat):Int))
 have c1:=h.ci.kept g1 (oQ h.ci|>.o7 h.ti (by decide))
 have g2:=UN (w:=(w.setCell ⟨gi,a*2,none⟩ (.int .i64 ((J/4:Nat):Int))).setCell ⟨gi,a*2+1,none⟩ (.int .i64 ((J%4:Nat):Int))) (g:=ga) (i:=a) (.int .i64 (Go.Proofs.YtcohmplpgcddiaaGreatDoor.gi (iO d false J) a+1))
 have k1:=h.sh.gr g1 (yG h.ti h.sh (by decide))
 have q1:=h.cr.kept g1 (h.cr.o7 h.ti (by decide))
 have u1:=h.tu.kept g1 (.inr (by simpa[Value.ownBlock]using h.n1.symm))
 have o1:=h.co.kept g1 (oQ h.co|>.o7 h.ti (by decide))
 refine⟨k1.gr g2 (yG (oQ c1) k1 (by decide)),q1.kept g2 (q1.o7 (oQ c1) (by decide)),?_,?_,?_,?_,h.n1,h.n2,h.lt⟩
 ·rw[ht];exact s1.kept g2 (s1.o7 (oQ c1) (by decide))
 ·rw[hu];exact u1.kept g2 (u1.o7 (oQ c1) (by decide))
 ·rw[hc];exact c1.FI a _
 ·rw[ho];exact o1.kept g2 (.inr (by simpa[Value.ownBlock]using h.n2.symm))
theorem Bq.afq(h:Bq d b0 g A c gi go ga gb w J){a:Nat}(ha:a<2*d.ae.length+1)(hj:gj d J=a)(he:bO d (J/4) (J%4)=false):
  Bq d b0 g A c gi go ga gb (((w.setCell ⟨go,a*2,none⟩ (.int .i64 ((J/4:Nat):Int))).setCell ⟨go,a*2+1,none⟩ (.int .i64 ((J%4:Nat):Int))).setCell ⟨gb,a,none⟩ (.int .i64 (Go.Proofs.YtcohmplpgcddiaaGreatDoor.gi (iO d true J) a+1))) (J+1):=by
 have ht:aI d true (J+1)=(aI d true J).set a (J/4,J%4):=Tt hj (by simp[he])
 have hu:aI d false (J+1)=aI d false J:=Si he
 have hc:iO d true (J+1)=(iO d true J).set a (Go.Proofs.YtcohmplpgcddiaaGreatDoor.gi (iO d true J) a+1):=TW hj (by simp[he])
 have ho:iO d false (J+1)=iO d false J:=SV he
 have s1:=h.tu.Xj rfl (i:=a) (by rw[jR];exact ha) (.int .i64 ((J/4:Nat):Int)) (.int .i64 ((J%4:Nat):Int)) (J/4,J%4) rfl
 have g1:=UM (w:=w) (g:=go) (i:=a*2) (j:=a*2+1) (.int .i64 ((J/4:Nat):Int)) (.int .i64 ((J%4:Nat):Int))
 have c1:=h.co.kept g1 (oQ h.co|>.o7 h.tu (by decide))
 have g2:=UN (w:=(w.setCell ⟨go,a*2,none⟩ (.int .i64 ((J/4:Nat):Int))).setCell ⟨go,a*2+1,none⟩ (.int .i64 ((J%4:Nat):Int))) (g:=gb) (i:=a) (.int .i64 (Go.Proofs.YtcohmplpgcddiaaGreatDoor.gi (iO d true J) a+1))
 have k1:=h.sh.gr g1 (yG h.tu h.sh (by decide))
 have q1:=h.cr.kept g1 (h.cr.o7 h.tu (by decide))
 have u1:=h.ti.kept g1 (.inr (by simpa[Value.ownBlock]using h.n1))
 have o1:=h.ci.kept g1 (oQ h.ci|>.o7 h.tu (by decide))
 refine⟨k1.gr g2 (yG (oQ c1) k1 (by decide)),q1.kept g2 (q1.o7 (oQ c1) (by decide)),?_,?_,?_,?_,h.n1,h.n2,h.lt⟩
 ·rw[hu];exact u1.kept g2 (u1.o7 (oQ c1) (by decide))
 ·rw[ht];exact s1.kept g2 (s1.o7 (oQ c1) (by decide))
 ·rw[ho];exact o1.kept g2 (.inr (by simpa[Value.ownBlock]using h.n2))
 ·rw[hc];exact c1.FI a _
theorem Bq.aiw(h:Bq d b0 g A c gi go ga gb w J){a:Nat}(ha:a<2*d.ae.length+1):∃x y X:Int,w.cell? ⟨gi,a*2,none⟩=some (.int .i64 x)/\w.cell? ⟨gi,a*2+1,none⟩=some (.int .i64 y)/\w.cell? ⟨ga,a,none⟩=some (.int .i64 X)/\
  w.frozen? ⟨gi,a*2,none⟩=false/\w.frozen? ⟨gi,a*2+1,none⟩=false/\w.frozen? ⟨ga,a,none⟩=false/\gi≠ga/\ga≠gi/\Hid (Go.Proofs.YtcohmplpgcddiaaGreatDoor.gi (iO d false J) a=X)/\0<=X/\X<=J:=by
 have hl:a<(aI d false J).length:=by rw[jR];exact ha
 have hne:gi≠ga:=by
  rcases h.ti.o7 (oQ h.ci) (by decide)with h|h
  ·simp[Value.ownBlock]at h
  ·simpa[Value.ownBlock]using h
 have hx:=CJ d a false J
 exact⟨_,_,_,h.ti.cell hl (j:=0) (by decide) rfl,h.ti.cell hl (j:=1) (by decide) rfl,h.ci.cell (by rw[sS];exact ha),h.ti.free _,h.ti.free _,h.ci.free _,hne,hne.symm,rfl,
  by rw[sQ ha];omega,by rw[sQ ha];omega⟩
theorem Bq.agD(h:Bq d b0 g A c gi go ga gb w J){a:Nat}(ha:a<2*d.ae.length+1):∃x y X:Int,w.cell? ⟨go,a*2,none⟩=some (.int .i64 x)/\w.cell? ⟨go,a*2+1,none⟩=some (.int .i64 y)/\w.cell? ⟨gb,a,none⟩=some (.int .i64 X)/\
  w.frozen? ⟨go,a*2,none⟩=false/\w.frozen? ⟨go,a*2+1,none⟩=false/\w.frozen? ⟨gb,a,none⟩=false/\go≠gb/\gb≠go/\Hid (Go.Proofs.YtcohmplpgcddiaaGreatDoor.gi (iO d true J) a=X)/\0<=X/\X<=J:=by
 have hl:a<(aI d true J).length:=by rw[jR];exact ha
 have hne:go≠gb:=by
  rcases h.tu.o7 (oQ h.co) (by decide)with h|h
  ·simp[Value.ownBlock]at h
  ·simpa[Value.ownBlock]using h
 have hx:=CJ d a true J
 exact⟨_,_,_,h.tu.cell hl (j:=0) (by decide) rfl,h.tu.cell hl (j:=1) (by decide) rfl,h.co.cell (by rw[sS];exact ha),h.tu.free _,h.tu.free _,h.co.free _,hne,hne.symm,rfl,
  by rw[sQ ha];omega,by rw[sQ ha];omega⟩
end
def Kb(w:World)(b0:Nat)(v:Value)(d:Dg):Prop:=
 ∃g A c gi go,v=.pointer (some ⟨g,0,none⟩)/\b0<=g/\gi≠go/\
  cW w g 66 #[.slice A d.ae.length c,.int .i64 d.loops,.slice (some ⟨gi,0,none⟩) (2*d.ae.length+1) (2*d.ae.length+1),.slice (some ⟨go,0,none⟩) (2*d.ae.length+1) (2*d.ae.length+1)]/\
  Ow nX 68 w b0 (.slice A d.ae.length c) d.ae/\
  Ow yO 106 w b0 (.slice (some ⟨gi,0,none⟩) (2*d.ae.length+1) (2*d.ae.length+1)) (aI d false (4*d.ae.length))/\
  Ow yO 106 w b0 (.slice (some ⟨go,0,none⟩) (2*d.ae.length+1) (2*d.ae.length+1)) (aI d true (4*d.ae.length))
theorem Bq.aiv{d:Dg}{b0 g c gi go ga gb:Nat}{A:Option Addr}{w:World}(h:Bq d b0 g A c gi go ga gb w (4*d.ae.length)):Kb w b0 (.pointer (some ⟨g,0,none⟩)) d:=
 ⟨g,A,c,gi,go,rfl,h.lt,h.n1,h.sh,h.cr,h.ti,h.tu⟩
def ac0(w:World)(e:Ending)(w':World):Prop:=e=.returned (.tuple #[.pointer none,.bool false])/\Kp w w'
def afF(d:Dg)(w:World)(e:Ending)(w':World):Prop:=∃v,e=.returned (.tuple #[v,.bool true])/\Kp w w'/\Kb w' w.heap.size v d
def Ta(b:Bool)(d:Dg)(w:World)(e:Ending)(w':World):Prop:=(b=false/\ac0 w e w')\/(b=true/\afF d w e w')
set_option maxRecDepth 100000 in
set_option maxHeartbeats 4000000 in
theorem abQ(v:Value)(d:Dg)(w:World)(hd:pS w w.heap.size v d)(hn:d.ae.length<=16):
  Calls Tryz.prog 50 #[v] w (Ta (aO d) d w):=by
 obtain⟨A,cap,rfl,hcap,hr⟩:=hd
 have hm:=fun W=>UH ail (2*d.ae.length+1) (2*(d.ae.length:Int)+1) (by omega) (by omega) W
 have hm2:=fun W=>UH agt (2*d.ae.length+1) (2*(d.ae.length:Int)+1) (by omega) (by omega) W
 generalize hZ:madeCells (Value.agg #[.int .i64 0,.int .i64 0]).cells ((2*d.ae.length+1)*2)=Z at*
 generalize hY:madeCells (Value.int .i64 0).cells ((2*d.ae.length+1)*1)=Y at*
 have HZ:=Lib.hid hZ
 have HY:=Lib.hid hY
 clear hZ hY
 go_enter Tryz.func50,Tryz.ntmps50
 have W0:IntKind.i64.wrap (2*(d.ae.length:Int))=2*(d.ae.length:Int):=IntWalk.i64_in _ (by omega)
 have W1:IntKind.i64.wrap (2*(d.ae.length:Int)+1)=2*(d.ae.length:Int)+1:=IntWalk.i64_in _ (by omega)
 have E0:Hid ((w.alloc (.cells #[.slice A d.ae.length cap,.int .i64 d.loops] 24)).cell? ⟨w.heap.size,0,none⟩=some (.slice A d.ae.length cap)):=(cW.new _ _ _).cell 0 rfl
 have E1:Hid ((w.alloc (.cells #[.slice A d.ae.length cap,.int .i64 d.loops] 24)).cell? ⟨w.heap.size,1,none⟩=some (.int .i64 d.loops)):=(cW.new _ _ _).cell 1 rfl
 go_upto_region 2 with(fail)
 go_cut [5] (fun p wx=>Kp (w.alloc (.cells #[.slice A d.ae.length cap,.int .i64 d.loops] 24)) wx/\Sh d w wx p (aI d false 0) (aI d true 0))
 case first=>
  go_region_held3 (fun W=>W.cell? ⟨w.heap.size,0,none⟩=some (.slice A d.ae.length cap)/\W.cell? ⟨w.heap.size,1,none⟩=some (.int .i64 d.loops)) (go_keep) (first
   |(go_at_call 80;refine(acS A cap d.ae _ (hr.kp (by repeat(with_reducible (first|exact Kp.refl _|refine Kp.alloc ?_ _|refine Kp.drew ?_))))).mono ?_;rintro e w1 ⟨A1,c1,rfl,uT,hk1⟩;have hq:Kp (w.alloc (.cells #[.slice A d.ae.length cap,.int .i64 d.loops] 24)) w1:=Kp.trans (by repeat(with_reducible (first|exact Kp.refl _|refine Kp.alloc ?_ _|refine Kp.drew ?_))) hk1;have q0:=hq.c E0.out;have q1:=hq.c E1.out;obtain⟨l0,l1,l2,l3,l4⟩:=DW hq.alt))
  all_goals
   have lk:=hk1.size
   simp at lk
   go_wp2_with fail
   go_meet
   refine⟨?_,_,A1,c1,_,_,rfl,cW.new' _ _ _ (by simp),?_,?_,?_,?_,?_⟩
   ·repeat(with_reducible (first|exact Kp.refl _|refine Kp.alloc ?_ _|refine Kp.drew ?_|refine Kp.trans ?_ hk1))
   ·omega
   ·omega
   ·refine(Ow.base (uT.kp ?_) (by simp));repeat(with_reducible (first|exact Kp.refl _|refine Kp.alloc ?_ _|refine Kp.drew ?_))
   ·rw[Sg]
    refine Ow.made (C:=yO) (z:=.agg #[.int .i64 0,.int .i64 0]) rfl ?_ (by first|omega|(simp;done)|(simp;omega)) (by unfold maxLen;omega)
    change cW _ _ _ (madeCells (Value.agg #[.int .i64 0,.int .i64 0]).cells ((2*d.ae.length+1)*2))
    rw[HZ.out]
    repeat(first|((with_reducible refine cW.new' _ _ _ ?_);(simp;done))|with_reducible refine cW.alloc ?_ _|with_reducible refine cW.drew ?_|with_reducible refine cW.kp ?_ hk1)
   ·rw[Sg]
    refine Ow.made (C:=yO) (z:=.agg #[.int .i64 0,.int .i64 0]) rfl ?_ (by first|omega|(simp;done)|(simp;omega)) (by unfold maxLen;omega)
    change cW _ _ _ (madeCells (Value.agg #[.int .i64 0,.int .i64 0]).cells ((2*d.ae.length+1)*2))
    rw[HZ.out]
    repeat(first|((with_reducible refine cW.new' _ _ _ ?_);(simp;done))|with_reducible refine cW.alloc ?_ _|with_reducible refine cW.drew ?_|with_reducible refine cW.kp ?_ hk1)
 case rest=>
  obtain⟨hkc,hS⟩:=hcut
  have hr':=Lib.hid hr
  clear hm hr E0 E1
  go_upto_region 3 with(fail)
  go_cut [6,7] (fun ci co wx=>Kp (w.alloc (.cells #[.slice A d.ae.length cap,.int .i64 d.loops] 24)) wx/\Bs d w wx u5 ci co 0)
  case first=>
   go_region
   all_goals
    have lk:=hkc.size
    simp at lk
    go_wp2_with fail
    go_meet
    refine⟨?_,?_,_,_,rfl,rfl,?_,?_,?_⟩
    ·repeat(with_reducible (first|exact Kp.refl _|refine Kp.alloc ?_ _|refine Kp.drew ?_|refine Kp.trans ?_ hkc))
    ·refine hS.kp ?_
     repeat(with_reducible (first|exact Kp.refl _|refine Kp.alloc ?_ _|refine Kp.drew ?_))
    ·omega
    ·rw[SU]
     refine iP.Wm (Ow.made (C:=Gg) (z:=.int .i64 0) rfl ?_ (by first|omega|(simp;done)|(simp;omega)) (by unfold maxLen;omega))
     change cW _ _ _ (madeCells (Value.int .i64 0).cells ((2*d.ae.length+1)*1))
     rw[HY.out]
     repeat(first|((with_reducible refine cW.new' _ _ _ ?_);(simp;done))|with_reducible refine cW.alloc ?_ _|with_reducible refine cW.drew ?_)
    ·rw[SU]
     refine iP.Wm (Ow.made (C:=Gg) (z:=.int .i64 0) rfl ?_ (by first|omega|(simp;done)|(simp;omega)) (by unfold maxLen;omega))
     change cW _ _ _ (madeCells (Value.int .i64 0).cells ((2*d.ae.length+1)*1))
     rw[HY.out]
     repeat(first|((with_reducible refine cW.new' _ _ _ ?_);(simp;done))|with_reducible refine cW.alloc ?_ _|with_reducible refine cW.drew ?_)
  case rest=>
   clear hkc hS hm2 W0 W1
   obtain⟨hkc,⟨g,A1,c1,gi,go,rfl,hb,n1,hl,o1,o2,o3⟩,ga,gb,rfl,rfl,n2,o4,o5⟩:=hcut
   have hQ:Bq d (w.heap.size+1) g A1 c1 gi go ga gb wc 0:=⟨hb,o1,o2,o3,o4,o5,n1,n2,by omega⟩
   clear hb n1 n2 o1 o2 o3 o4 o5
   have hkx:Kp w wc:=hkc.al
   have hx:=(cW.new w 24 #[.slice A d.ae.length cap,.int .i64 d.loops]).kp hkc
   obtain⟨e0,e1,e2,e3⟩:=hx.two
   clear HZ HY
   go_wp2_with fail
   go_loopw [43] (fun i wr=>∃n:Nat,n<=d.ae.length/\i=.int .i64 n/\Kp w wr/\Bq d (w.heap.size+1) g A1 c1 gi go ga gb wr (4*n)/\Hid (∀j,j<4*n->1<=gj d j/\gj d j<=2*(d.ae.length:Int))) (fun i _=>d.ae.length-(intOf i).toNat)
   case atStart=>exact⟨0,Nat.zero_le _,rfl,hkx,hQ,fun j hj=>by omega⟩
   case round=>
    clear hQ hkx e0 e1 e2 e3 hx hkc
    obtain⟨n,hn',rfl,hk,hQ,hrg⟩:=hrel
    by_cases hlt:n<d.ae.length
    ·obtain⟨b,off,rfl,hb1,k0,k1,k2,k3,k4⟩:=Gf (hr'.out.kp hk) hlt
     obtain⟨wo,rfl⟩:∃wo:World,wo=wr:=⟨_,rfl⟩
     obtain⟨l0,l1,l2,l3,l4⟩:=DW hb1
     have hx:=cW.new wo 68 #[.int .i64 (Go.Proofs.YtcohmplpgcddiaaGreatDoor.ga d.ae n).a,.int .i64 (Go.Proofs.YtcohmplpgcddiaaGreatDoor.ga d.ae n).b,.int .i64 (Go.Proofs.YtcohmplpgcddiaaGreatDoor.ga d.ae n).c,.int .i64 (Go.Proofs.YtcohmplpgcddiaaGreatDoor.ga d.ae n).d,.bool (Go.Proofs.YtcohmplpgcddiaaGreatDoor.ga d.ae n).plus]
     have hx0:∀k,k<4->gj d (4*n+k)=dw (Go.Proofs.YtcohmplpgcddiaaGreatDoor.ga d.ae n) k/\bO d ((4*n+k)/4) ((4*n+k)%4)=kS (Go.Proofs.YtcohmplpgcddiaaGreatDoor.ga d.ae n) k/\(4*n+k)/4=n/\(4*n+k)%4=k:=fun k hk=>by
      have h1:(4*n+k)/4=n:=by omega
      have h2:(4*n+k)%4=k:=by omega
      unfold gj aL bO
      rw[h1,h2]
      exact⟨rfl,rfl,rfl,rfl⟩
     have HX:=Lib.hid hx0
     clear hx0
     generalize Go.Proofs.YtcohmplpgcddiaaGreatDoor.ga d.ae n=x at*
     go_wp2_with fail
     go_loopw [48] (fun i wr=>∃m:Nat,m<=4/\i=.int .i64 m/\Kp w wr/\Bq d (w.heap.size+1) g A1 c1 gi go ga gb wr (4*n+m)/\Hid (∀j,j<4*n+m->1<=gj d j/\gj d j<=2*(d.ae.length:Int))/\
      cW wr wo.heap.size 68 #[.int .i64 x.a,.int .i64 x.b,.int .i64 x.c,.int .i64 x.d,.bool x.plus]) (fun i _=>4-(intOf i).toNat)
     case atStart=>exact⟨0,Nat.zero_le _,rfl,hk.alloc _,hQ.kp ((Kp.refl _).alloc _),hrg.out,hx⟩
     case round=>
      clear hQ hk hrg hx k0 k1 k2 k3 k4 l0 l1 l2 l3 l4 hb1
      obtain⟨m,hm,rfl,hk,hQ,hrg,hx⟩:=hrel
      by_cases mB:m<4
      ·obtain⟨k0,k1,k2,k3,k4⟩:=hx.cr
       obtain⟨l0,l1,l2,l3,l4⟩:=DW hx.lt
       obtain⟨hj,hen,hq1,hq2⟩:=HX.out m mB
       by_cases hlo:1<=dw x m
       ·by_cases hhi:dw x m<=2*(d.ae.length:Int)
        ·obtain⟨a,ha⟩:=Int.eq_ofNat_of_zero_le (show 0<=dw x m by omega)
         rw[ha]at hlo hhi hj
         have ha':=Lib.hid ha
         clear ha
         cases he:kS x m
         ·rw[he]at hen
          have he':=Lib.hid he
          have hN:=fun w' (h:Bq d (w.heap.size+1) g A1 c1 gi go ga gb w' (4*n+m))=>h.afq (a:=a) (by omega) hj hen
          rw[hq1,hq2]at hN
          have HN:=Lib.hid hN
          have hj':=Lib.hid hj
          clear hN hj hen hq1 hq2 he
          go_wp2_with fail
          refine(Iz x m _ mB).mono ?_;rintro e w1 ⟨rfl,hk1⟩
          rw[ha'.out]
          obtain⟨cc,cf⟩:=hk1.cf (n:=wr.heap.size) rfl
          go_wp2_with fail
          refine(SS x m _ mB).mono ?_;rintro e w2 ⟨rfl,hk2⟩
          rw[he'.out]
          clear cc cf
          have p9:=(hQ.kp hk1).kp hk2
          have hx2:=(hx.kp hk1).kp hk2
          have b1:wo.heap.size≠go:=fun e=>yG p9.tu hx2 (by decide) (by rw[e];rfl)
          have b2:wo.heap.size≠gb:=fun e=>yG (oQ p9.co) hx2 (by decide) (by rw[e];rfl)
          have b3:=(p9.tu.lt go rfl).1
          have b4:=(p9.co.lt gb rfl).1
          obtain⟨s0,s1,s2,s3⟩:=p9.sh.four
          obtain⟨x0,y0,X,t0,t1,t2,t3,t4,t5,t6,t7,hX,X0,X1⟩:=p9.agD (a:=a) (by omega)
          go_wp2_with fail
          go_roundw
          case rel=>
           have hq:=HN.out w2 p9
           rw[hX.out]at hq
           exact⟨m+1,by omega,by go_num,((((hk.trans hk1).trans hk2).setCell (p:=⟨go,a*2,none⟩) (by simp;omega) _).setCell (p:=⟨go,a*2+1,none⟩) (by simp;omega) _).setCell (p:=⟨gb,a,none⟩) (by simp;omega) _,hq,
            fun j h=>by
             rcases Nat.lt_or_ge j (4*n+m)with h1|h1
             ·exact hrg.out j h1
             ·obtain rfl:j=4*n+m:=by omega
              rw[hj'.out];omega,
            ((hx2.far (p:=⟨go,a*2,none⟩) b1 _).far (p:=⟨go,a*2+1,none⟩) b1 _).far (p:=⟨gb,a,none⟩) b2 _⟩
          case measure=>simp[intOf]<;>omega
         ·rw[he]at hen
          have he':=Lib.hid he
          have hN:=fun w' (h:Bq d (w.heap.size+1) g A1 c1 gi go ga gb w' (4*n+m))=>h.agZ (a:=a) (by omega) hj hen
          rw[hq1,hq2]at hN
          have HN:=Lib.hid hN
          have hj':=Lib.hid hj
          clear hN hj hen hq1 hq2 he
          go_wp2_with fail
          refine(Iz x m _ mB).mono ?_;rintro e w1 ⟨rfl,hk1⟩
          rw[ha'.out]
          obtain⟨cc,cf⟩:=hk1.cf (n:=wr.heap.size) rfl
          go_wp2_with fail
          refine(SS x m _ mB).mono ?_;rintro e w2 ⟨rfl,hk2⟩
          rw[he'.out]
          clear cc cf
          have p9:=(hQ.kp hk1).kp hk2
          have hx2:=(hx.kp hk1).kp hk2
          have b1:wo.heap.size≠gi:=fun e=>yG p9.ti hx2 (by decide) (by rw[e];rfl)
          have b2:wo.heap.size≠ga:=fun e=>yG (oQ p9.ci) hx2 (by decide) (by rw[e];rfl)
          have b3:=(p9.ti.lt gi rfl).1
          have b4:=(p9.ci.lt ga rfl).1
          obtain⟨s0,s1,s2,s3⟩:=p9.sh.four
          obtain⟨x0,y0,X,t0,t1,t2,t3,t4,t5,t6,t7,hX,X0,X1⟩:=p9.aiw (a:=a) (by omega)
          go_wp2_with fail
          go_roundw
          case rel=>
           have hq:=HN.out w2 p9
           rw[hX.out]at hq
           exact⟨m+1,by omega,by go_num,((((hk.trans hk1).trans hk2).setCell (p:=⟨gi,a*2,none⟩) (by simp;omega) _).setCell (p:=⟨gi,a*2+1,none⟩) (by simp;omega) _).setCell (p:=⟨ga,a,none⟩) (by simp;omega) _,hq,
            fun j h=>by
             rcases Nat.lt_or_ge j (4*n+m)with h1|h1
             ·exact hrg.out j h1
             ·obtain rfl:j=4*n+m:=by omega
              rw[hj'.out];omega,
            ((hx2.far (p:=⟨gi,a*2,none⟩) b1 _).far (p:=⟨gi,a*2+1,none⟩) b1 _).far (p:=⟨ga,a,none⟩) b2 _⟩
          case measure=>simp[intOf]<;>omega
        ·have hno:=Lib.hid (T5 (d:=d) (j:=4*n+m) (by omega) (by rw[hj];omega))
         clear hj hen hq1 hq2
         go_wp2_with fail
         refine(Iz x m _ mB).mono ?_;rintro e w1 ⟨rfl,hk1⟩
         go_wp2_with fail
         go_ret2
         exact .inl ⟨hno.out,rfl,hk.trans hk1⟩
       ·have hno:=Lib.hid (T5 (d:=d) (j:=4*n+m) (by omega) (by rw[hj];omega))
        clear hj hen hq1 hq2
        go_wp2_with fail
        refine(Iz x m _ mB).mono ?_;rintro e w1 ⟨rfl,hk1⟩
        go_wp2_with fail
        go_ret2
        exact .inl ⟨hno.out,rfl,hk.trans hk1⟩
      ·obtain rfl:m=4:=by omega
       go_wp2_with fail
       go_roundw
       case rel=>exact⟨n+1,by omega,by go_num,hk,hQ,hrg.out⟩
       case measure=>simp[intOf]<;>omega
    ·obtain rfl:n=d.ae.length:=by omega
     go_wp2_with fail
     obtain⟨wo,rfl⟩:∃wo:World,wo=wr:=⟨_,rfl⟩
     go_loop [12] (fun i=>∃a:Nat,1<=a/\a<=2*d.ae.length+1/\i=.int .i64 a/\Hid (∀a':Nat,1<=a'->a'<a->oL d a'=true)) (fun i=>2*d.ae.length+1-(intOf i).toNat)
     case atStart=>exact⟨1,by omega,by omega,rfl,fun a h1 h2=>by omega⟩
     case round=>
      obtain⟨a,ha0,ha1,rfl,hok⟩:=hrel
      by_cases hlt2:a<=2*d.ae.length
      ·have ca:=hQ.ci.cell (i:=a) (by rw[sS];omega)
       have cb:=hQ.co.cell (i:=a) (by rw[sS];omega)
       rw[sQ (by omega)]at ca cb
       have hao:oL d a=(eU d a false (4*d.ae.length)==1&&eU d a true (4*d.ae.length)==1):=rfl
       generalize eU d a false (4*d.ae.length)=X at*
       generalize eU d a true (4*d.ae.length)=Y at*
       by_cases hX:X=1
       ·subst hX
        by_cases hY:Y=1
        ·subst hY
         have ajL:Hid (oL d a=true):=hao
         clear hao
         go_wp2_with fail
         go_round
         case rel=>exact⟨a+1,by omega,by omega,by go_num,fun a' h1 h2=>by
          rcases Nat.lt_or_ge a' a with h|h
          ·exact hok.out a' h1 h
          ·obtain rfl:a'=a:=by omega
           exact ajL.out⟩
         case measure=>simp[intOf]<;>omega
        ·have hno:=Lib.hid (T6 ha0 hlt2 (by rw[hao];simp[hY]))
         have t1:(((Y:Int)!=1):Bool)=true:=by simp only[bne_iff_ne,ne_eq];omega
         clear hao hY
         go_wp2_with fail
         go_ret2
         exact .inl ⟨hno.out,rfl,hk⟩
       ·have hno:=Lib.hid (T6 ha0 hlt2 (by rw[hao];simp[hX]))
        have t1:(((X:Int)!=1):Bool)=true:=by simp only[bne_iff_ne,ne_eq];omega
        clear hao hX
        go_wp2_with fail
        go_ret2
        exact .inl ⟨hno.out,rfl,hk⟩
      ·have aix:=Lib.hid (SZ (d:=d) fun a' h1 h2=>hok.out a' h1 (by omega))
       go_wp2_with fail
       go_ret2
       obtain⟨g',A',c',Qw,go',r1,r2,r3⟩:=hQ.aiv
       exact .inr ⟨aix.out,_,rfl,hk,g',A',c',Qw,go',r1,by omega,r3.1,r3.2.1,r3.2.2.1.base (by omega),r3.2.2.2.1.base (by omega),r3.2.2.2.2.base (by omega)⟩
theorem acy{n:Nat}{loops:Int}(h:¬(n<=16/\0<=loops/\loops<=16/\¬(n=0/\loops=0))):16<n\/(n<=16/\loops<0)\/(n<=16/\16<loops)\/(n=0/\loops=0):=by omega
set_option maxRecDepth 100000 in
set_option maxHeartbeats 2000000 in
theorem adK(v:Value)(d:Dg)(w:World)(hd:pS w w.heap.size v d):Calls Tryz.prog 23 #[v] w (Ta (fp d) d w):=by
 obtain⟨A,cap,rfl,hcap,hr⟩:=hd
 have hrm:d.ae.length*40<=140737488355328:=hr.room
 by_cases h:d.ae.length<=16/\0<=d.loops/\d.loops<=16/\¬(d.ae.length=0/\d.loops=0)
 ·have hm:fp d=aO d:=by rw[Eh,decide_eq_true h,Bool.true_and]
  rw[hm]
  clear hm
  obtain⟨h1,h2,h3,h4⟩:=h
  have hb:=Lib.hid fun w' (hk:Kp w w')=>abQ (.agg #[.slice A d.ae.length cap,.int .i64 d.loops]) d w' ⟨A,cap,rfl,hcap,hr.kp hk⟩ h1
  have t1:((((d.ae.length:Int)+d.loops)==0):Bool)=false:=by rw[beq_eq_false_iff_ne];omega
  clear h4 hr
  generalize aO d=b at*
  go_enter Tryz.func23,Tryz.ntmps23
  go_wp2_with fail
  refine(hb.out _ ((Kp.refl _).alloc _)).mono ?_
  rintro e w1 (⟨hb0,rfl,hk⟩|⟨hb1,v,rfl,hk,hs⟩)
  ·have ajJ:=Lib.hid hb0
   clear hb0
   go_wp2_with fail
   go_ret2
   exact .inl ⟨ajJ.out,rfl,hk.al⟩
  ·have ajI:=Lib.hid hb1
   clear hb1
   go_wp2_with fail
   go_ret2
   obtain⟨g',A',c',Qw,go',r1,r2,r3⟩:=hs
   simp at r2
   exact .inr ⟨ajI.out,v,rfl,hk.al,g',A',c',Qw,go',r1,by omega,r3.1,r3.2.1,r3.2.2.1.base (by simp),r3.2.2.2.1.base (by simp),r3.2.2.2.2.base (by simp)⟩
 ·rw[Sr h]
  have hc:=acy h
  clear h hr
  obtain⟨cs,loops⟩:=d
  dsimp only at*
  generalize cs.length=n at*
  rcases hc with hc|⟨hc,hc'⟩|⟨hc,hc'⟩|⟨rfl,rfl⟩
  all_goals
   go_enter Tryz.func23,Tryz.ntmps23
   go_wp2_with fail
   go_ret2
   exact .inl ⟨rfl,rfl,(Kp.refl _).alloc _⟩
end Go.Proofs.YtcohmplpgcddiaaGreatDoor
namespace Go.Proofs.YtcohmplpgcddiaaGreatDoor
open Go.ChangeShapes Go.WideShapes Go.ChangeAt Go.RowKit
theorem Ow.rd{α:Type}{C:oK α}{E:TypeId}{w:World}{b n c:Nat}{A:Option Addr}{xs:List α}(h:Ow C E w b (.slice A n c) xs)(hr:xs.length*C.u8<=140737488355328):Rd C w w.heap.size A xs:=by
 obtain rfl:=h.y7
 exact Sl.Mw h hr
theorem Kb.look{w:World}{b0:Nat}{v:Value}{d:Dg}(h:Kb w b0 v d)(hn:d.ae.length<=16):∃g A c gi go,v=.pointer (some ⟨g,0,none⟩)/\g<w.heap.size/\gi<w.heap.size/\go<w.heap.size/\
  w.cell? ⟨g,0,none⟩=some (.slice A d.ae.length c)/\w.cell? ⟨g,1,none⟩=some (.int .i64 d.loops)/\
  w.cell? ⟨g,2,none⟩=some (.slice (some ⟨gi,0,none⟩) (2*d.ae.length+1) (2*d.ae.length+1))/\w.cell? ⟨g,3,none⟩=some (.slice (some ⟨go,0,none⟩) (2*d.ae.length+1) (2*d.ae.length+1))/\
  Rd nX w w.heap.size A d.ae/\
  Hid (∀a,a<2*d.ae.length+1->w.cell? ⟨gi,a*2,none⟩=some (.int .i64 (lastP d a false (4*d.ae.length)).1)/\w.cell? ⟨gi,a*2+1,none⟩=some (.int .i64 (lastP d a false (4*d.ae.length)).2))/\
  Hid (∀a,a<2*d.ae.length+1->w.cell? ⟨go,a*2,none⟩=some (.int .i64 (lastP d a true (4*d.ae.length)).1)/\w.cell? ⟨go,a*2+1,none⟩=some (.int .i64 (lastP d a true (4*d.ae.length)).2)):=by
 obtain⟨g,A,c,gi,go,rfl,r2,r3,r4,r5,r6,r7⟩:=h
 obtain⟨s0,s1,s2,s3⟩:=r4.four
 refine⟨g,A,c,gi,go,rfl,r4.lt,(r6.lt gi rfl).2,(r7.lt go rfl).2,s0,s1,s2,s3,r5.rd (by show d.ae.length*40<=_;omega),fun a ha=>?_,fun a ha=>?_⟩
 ·have h0:=r6.cell (i:=a) (by rw[jR];exact ha) (j:=0) (by decide) rfl
  have h1:=r6.cell (i:=a) (by rw[jR];exact ha) (j:=1) (by decide) rfl
  rw[xE ha]at h0 h1
  exact⟨h0,h1⟩
 ·have h0:=r7.cell (i:=a) (by rw[jR];exact ha) (j:=0) (by decide) rfl
  have h1:=r7.cell (i:=a) (by rw[jR];exact ha) (j:=1) (by decide) rfl
  rw[xE ha]at h0 h1
  exact⟨h0,h1⟩
theorem TS{d:Dg}(h:aO d=true){a:Nat}(h0:1<=a)(h1:a<=2*d.ae.length)(back:Bool):
  (aF d a back).1<d.ae.length/\(aF d a back).2<4/\lastP d a back (4*d.ae.length)=aF d a back/\aL d (aF d a back).1 (aF d a back).2=a/\bO d (aF d a back).1 (aF d a back).2=!back:=by
 have hc:eU d a back (4*d.ae.length)=1:=by cases back<;>simp[HT h a h0 h1]
 obtain⟨j,j1,j2,j3,j4⟩:=Ie hc
 have e:=Sy hc
 rw[j4]at e
 rw[<-e]
 dsimp only
 unfold jh at j2
 rw[Bool.and_eq_true,decide_eq_true_iff]at j2
 refine⟨by omega,by omega,by rw[j4],j2.1,?_⟩
 have:=j2.2
 cases back<;>cases hq:bO d (j/4) (j%4)<;>simp_all
end Go.Proofs.YtcohmplpgcddiaaGreatDoor
namespace Go.Proofs.YtcohmplpgcddiaaGreatDoor
open Go.ChangeShapes Go.WideShapes Go.ChangeAt Go.RowKit
def cQ:Cd (Nat×Nat):=⟨uO,2,16,106,(0,0),fun _=>rfl,by
 intro x u hu
 simp[uO]at hu
 rcases hu with rfl|rfl<;>rfl⟩
section
variable {w w' : World} {M : Hp} {X : Fr} {H H' : List Rs}
theorem Kp.like(h:Kp w w'):ku w w':=⟨h.os,h.tape,h.output,h.size⟩
theorem SH.old(S:SH w M X H)(h:Kp w w'):SH w' M X H:=S.kp h.like fun b hb=>h.block b hb
theorem SH.Jy{r:Rs}(S:SH w M X [])(S':SH w' M X H')(hr:r.ok (hp w'))(hb:∀b∈r.bl,w.heap.size<=b/\b<w'.heap.size)(XS:∀s∈H',∀b∈r.bl,b∉s.bl):SH w' M X (r::H'):=by
 have fresh:∀b,w.heap.size<=b->M b=none/\X.h b=none:=fun b hge=>by
  constructor
  ·cases hm:M b with
   |none=>rfl
   |some o=>have:=kv (S.m b o hm);omega
  ·cases hm:X.h b with
   |none=>rfl
   |some o=>have:=kv (S.x b o hm);omega
 refine⟨S'.m,S'.x,S'.mx,fun s hs=>?_,fun s hs b hbs=>?_,fun j k s t hjk hs ht b hbs=>?_,S'.like⟩
 ·rcases List.mem_cons.1 hs with rfl|hs
  ·exact hr
  ·exact S'.ok s hs
 ·rcases List.mem_cons.1 hs with rfl|hs
  ·exact⟨(hb b hbs).2,fresh b (hb b hbs).1⟩
  ·exact S'.bl s hs b hbs
 ·cases j with
  |zero=>
   cases k with
   |zero=>exact absurd rfl hjk
   |succ k=>
    simp only[List.getElem?_cons_zero,Option.some.injEq,List.getElem?_cons_succ]at hs ht
    subst hs
    exact XS t (List.mem_of_getElem? ht) b hbs
  |succ j=>
   cases k with
   |zero=>
    simp only[List.getElem?_cons_zero,Option.some.injEq,List.getElem?_cons_succ]at hs ht
    subst ht
    exact fun mD=>XS s (List.mem_of_getElem? hs) b mD hbs
   |succ k=>
    simp only[List.getElem?_cons_succ]at hs ht
    exact S'.ap j k s t (by omega) hs ht b hbs
theorem aJ.dg{N:Hp}{A:Option Addr}{c:Nat}{d:Dg}(h:aJ bu N A c d.ae)(hN:N.le (hp w)):pS w w.heap.size (.agg [.slice A d.ae.length c,.int .i64 d.loops].toArray) d:=by
 refine⟨A,c,rfl,h.1,⟨oq nX.hf _,h.2.1,fun h0=>?_⟩⟩
 have hlen:0<d.ae.length:=by simpa using h0
 obtain⟨e,cs,T,fz,hc,_⟩:=h.2.2 hlen
 refine⟨adB A,qP A,e,kv (hN _ _ hc),fun j u hu=>?_⟩
 exact h.cells hN j u hu
theorem ad9{f:FuncId}{vs:List Value}{b:Bool}(S:SH w M X [])(h:Calls Tryz.prog f vs.toArray w (CO b w)):Cq Tryz.prog f vs w M X (fun u=>u=.bool b):=
 h.mono fun e w' ⟨he,hk⟩=>⟨_,he,S.old hk,rfl⟩
theorem KZ(d:Dg){A:Option Addr}{c:Nat}(h:aJ bu (M.un X.h) A c d.ae)(S:SH w M X []):Cq Tryz.prog 15 [.agg [.slice A d.ae.length c,.int .i64 d.loops].toArray] w M X (fun u=>u=.bool (fp d)):=
 ad9 S (aai _ d w (h.dg S.um))
theorem aap(d:Dg){A B:Option Addr}{c e:Nat}(h:aJ bu (M.un X.h) A c d.ae)(k:aJ bu (M.un X.h) B e d.ae)(S:SH w M X []):Cq Tryz.prog 10 [.agg [.slice A d.ae.length c,.int .i64 d.loops].toArray,.agg [.slice B d.ae.length e,.int .i64 d.loops].toArray] w M X (fun u=>u=.bool true):=
 (aeO _ _ d w (h.dg S.um) (k.dg S.um)).mono fun e w' ⟨he,hk⟩=>⟨_,he,S.old hk,rfl⟩
end
def ShV(d:Dg)(vi vo:Value):Prop:=∃gi go,vi=.slice (some ⟨gi,0,none⟩) (2*d.ae.length+1) (2*d.ae.length+1)/\vo=.slice (some ⟨go,0,none⟩) (2*d.ae.length+1) (2*d.ae.length+1)/\gi≠go
def akE(d:Dg)(v:Value)(N:List Rs):Prop:=
 (fp d=false/\v=.tuple [.pointer none,.bool false].toArray/\N=[])\/
 (fp d=true/\∃g vc vi vo,v=.tuple [.pointer (some ⟨g,0,none⟩),.bool true].toArray/\
  N=[Rs.box g 66 [vc,.int .i64 d.loops,vi,vo],Rs.row bu vc d.ae,Rs.row cQ vi (aI d false (4*d.ae.length)),Rs.row cQ vo (aI d true (4*d.ae.length))]/\ShV d vi vo)
theorem qC{α:Type}{C:Cd α}{v:Value}{xs:List α}{b:Nat}(h:b∈(Rs.row C v xs).bl):v.ownBlock=some b:=by simpa[Rs.row]using h
theorem Xa {w : World} {M : Hp} {X : Fr} (d : Dg) {A : Option Addr} {c : Nat} (h : aJ bu (M.un X.h) A c d.ae) (S : SH w M X []) : Co Tryz.prog 23 [.agg [.slice A d.ae.length c, .int .i64 d.loops].toArray] w M X (akE d) := by
  refine (adK _ d w (h.dg S.um)).mono ?_
  rintro e w' (⟨hm, rfl, hk⟩ | ⟨hm, v, rfl, hk, g, B, cp, gi, go, rfl, hg, hne, hb, hc, hi, ho⟩)
  · exact ⟨_, rfl, [], S.old hk, .inl ⟨hm, rfl, rfl⟩⟩
  · have hci := hc.o7 hi (by decide)
    have oG := hc.o7 ho (by decide)
    have hcb := hc.IW hb (by decide)
    have hib := hi.IW hb (by decide)
    have hob := ho.IW hb (by decide)
    have S0 := S.old hk
    have S1 : SH w' M X [Rs.row cQ (.slice (some ⟨go, 0, none⟩) (2 * d.ae.length + 1) (2 * d.ae.length + 1)) (aI d true (4 * d.ae.length))] :=
      S.Jy S0 (lD.Io (C := cQ) (ho.base (Nat.zero_le _))) (fun b hb => ho.lt b (qC hb)) (by simp)
    have S2 := S.Jy S1 (r := Rs.row cQ (.slice (some ⟨gi, 0, none⟩) (2 * d.ae.length + 1) (2 * d.ae.length + 1)) (aI d false (4 * d.ae.length)))
      (lD.Io (C := cQ) (hi.base (Nat.zero_le _))) (fun b hb => hi.lt b (qC hb)) (fun s hs b hb hbs => by
        rw [List.mem_singleton] at hs
        subst hs
        have h1 := qC hb
        have h2 := qC hbs
        simp only [Value.ownBlock, Option.some.injEq] at h1 h2
        omega)
    have S3 := S.Jy S2 (r := Rs.row bu (.slice B d.ae.length cp) d.ae) (lD.Io (C := bu) (hc.base (Nat.zero_le _))) (fun b hb => hc.lt b (qC hb)) (fun s hs b hb hbs => by
        have h1 := qC hb
        rcases List.mem_cons.1 hs with rfl | hs
        · rcases hci with h | h
          · rw [h] at h1; cases h1
          · exact h (h1.trans (qC hbs).symm)
        · rw [List.mem_singleton] at hs
          subst hs
          rcases oG with h | h
          · rw [h] at h1; cases h1
          · exact h (h1.trans (qC hbs).symm))
    have S4 := S.Jy S3 (r := Rs.box g 66 [.slice B d.ae.length cp, .int .i64 d.loops, .slice (some ⟨gi, 0, none⟩) (2 * d.ae.length + 1) (2 * d.ae.length + 1), .slice (some ⟨go, 0, none⟩) (2 * d.ae.length + 1) (2 * d.ae.length + 1)])
      hb (fun b hb' => by simp [Rs.box] at hb'; subst hb'; exact ⟨hg, hb.lt⟩) (fun s hs b hb' hbs => by
        simp [Rs.box] at hb'
        subst hb'
        rcases List.mem_cons.1 hs with rfl | hs
        · rcases hcb with h | h
          · have := qC hbs; rw [h] at this; cases this
          · exact h (qC hbs)
        · rcases List.mem_cons.1 hs with rfl | hs
          · rcases hib with h | h
            · have := qC hbs; rw [h] at this; cases this
            · exact h (qC hbs)
          · rw [List.mem_singleton] at hs
            subst hs
            rcases hob with h | h
            · have := qC hbs; rw [h] at this; cases this
            · exact h (qC hbs))
    exact ⟨_, rfl, _, S4, .inr ⟨hm, g, _, _, _, rfl, rfl, gi, go, rfl, rfl, hne⟩⟩
end Go.Proofs.YtcohmplpgcddiaaGreatDoor
namespace Go.Proofs.YtcohmplpgcddiaaGreatDoor
open Go.ChangeShapes Go.WideShapes Go.ChangeAt Go.RowKit
section
variable {P : Program} {o : Oper} {L : List (Nat × Value)} {w w' : World} {x y z : Operand} {t t' T E : TypeId} {a b : Int} {v u : Value} {n d : Nat} {Kt : List (Nat × Value) → World → Prop} {M M' : Hp} {X : Fr} {H H' : List Rs} {i g off : Nat} {l : List Value}
theorem GD{f:FuncId}{ys:List Operand}{vs:List Value}{fa ca:Array Operand}(hop:o.op=.makeFunc (.func f) fa ca)(hf:fa=#[])(hc:ca=ys.toArray)(hv:oevs L ys=some vs):Run P o L w (.func (.func f) #[] vs.toArray) w:=by
 intro n c he
 unfold execOp
 subst hf
 simp only[hop,hc,List.map_toArray,he.pE hv,Instr.makeFunc,Sem.run_bind,Sem.run_pure,Result.andThen_ok]
 rfl
theorem aex{f:FuncId}{vs cap:List Value}{ca:Call}{fo:Operand}{xs:List Operand}(hd:o.dst=some d)(hop:o.op=.call ca)(eG:ca.callee=.value fo)(hfo:oev L fo=some (.func (.func f) #[] cap.toArray))
  (hxs:ca.args=xs.toArray)(hvs:oevs L xs=some vs)(hn:Nat.blt d n=true)(hen:∀args w,(callFunc f args).run P w=.ok (.enter f args) w)(S:SH w M X H)
  {R:Value->Prop}(hcall:Cq P f (vs++cap) w M (XH w X H) R)(h:∀v w',SH w' M X H->R v->Kt ((d,v)::L) w'):WO P n o L w Kt:=by
 intro a ha next Q hk
 have hr:(execOp a.eval o).run P w=.ok (.enter f (vs++cap).toArray) w:=by
  unfold execOp
  simp only[hop,resolve,eG,ha.eval hfo,hxs,List.map_toArray,ha.pE hvs,Deferred.ofValue,Sem.run_bind,Sem.run_pure,Result.andThen_ok,invoke,Array.empty_append,List.append_toArray]
  exact hen _ _
 unfold Oper.wp
 rw[hr,Oper.upon_enter,hd]
 refine hcall.mono ?_
 rintro e w' ⟨v,rfl,h2,h4⟩
 exact hk _ _ _ (ha.put (by simpa using hn) v) (h v w' (S.back h2) h4)
theorem SH.LV{α:Type}{C:Cd α}{z:α}(S:SH w M X H)(hi:nth H i=some (Rs.box g E l))(hl:l=C.f z)(hr:C.u8<=140737488355328):aJ C (M.un (XH w X H).h) (some ⟨g,0,none⟩) 1 [z]:=by
 have hmem:Rs.box g E l∈H:=by rw[ig]at hi;exact List.mem_of_getElem? hi
 refine⟨by simp,by simpa using hr,fun _=>⟨rfl,l.toArray,E,(0,0),?_,fun j u hu=>?_⟩⟩
 ·show(M.un (XH w X H).h) g=_
  have h1:=S.bl _ hmem g (by simp[Rs.box])
  have h2:hp w g=some (.cells l.toArray E (0,0)):=S.get hi
  have h3:(H.any fun r=>r.bl.contains g)=true:=vq.2 ⟨_,hmem,List.mem_singleton.2 rfl⟩
  simp only[Hp.un,h1.2.1,XH,h3,if_true,h2]
 ·rw[List.flatMap_cons,List.flatMap_nil,List.append_nil,<-hl]at hu
  simpa[qP]using hu
theorem SH.YG(S:SH w M X H)(hi:nth H i=some (Rs.box g E l)):fW (M.un (XH w X H).h) g E l:=by
 have hmem:Rs.box g E l∈H:=by rw[ig]at hi;exact List.mem_of_getElem? hi
 have h1:=S.bl _ hmem g (by simp[Rs.box])
 have h2:hp w g=some (.cells l.toArray E (0,0)):=S.get hi
 unfold fW
 have h3:(H.any fun r=>r.bl.contains g)=true:=vq.2 ⟨_,hmem,List.mem_singleton.2 rfl⟩
 simp only[Hp.un,h1.2.1,XH,h3,if_true,h2]
theorem adk{ca:Call}{ops:List Operand}{ts:List TypeId}(hop:o.op=.call ca)(eG:ca.callee=.builtin .max)(hxs:ca.args=ops.toArray)(hts:ca.argTypes=ts.toArray)(hx:oevs L ops=some [.int .i64 a,.int .i64 b]):Run P o L w (.int .i64 (max a b)) w:=by
 intro n c he
 have e:(if b>a then b else a)=max a b:=by
  by_cases h:b>a
  ·rw[if_pos h];omega
  ·rw[if_neg h];omega
 unfold execOp
 simp only[hop,resolve,eG,hxs,hts,List.map_toArray,he.pE hx,Sem.run_bind,Sem.run_pure,Result.andThen_ok,invoke,builtin,Builtin.max_,List.foldlM_cons,List.foldlM_nil,Builtin.max2,e]
theorem aaP{A:Option Addr}{len cap lo hi size:Nat}{lx hx:Option Operand}{lv hv:Option Value}(hop:o.op=.slice T x lx hx none)(vT:oev L x=some (.slice A len cap))(hlo:lx.map (oev L)=lv.map some)(hhi:hx.map (oev L)=hv.map some)(hu:P.underlying T=some (.slice E))(hk:(P.info? E).map (·.size)=some size)
  (h1:(lv=none/\lo=0)\/lv=some (.int .i64 (lo:Int)))(h2:(hv=none/\hi=len)\/hv=some (.int .i64 (hi:Int)))(hle:lo<=hi)(hc:hi<=cap):
  Run P o L w (.slice (if cap=lo then A else A.map (·.add (lo*size))) (hi-lo) (cap-lo)) w:=by
 intro n c he
 have e1:lx.map c.eval=lv:=by
  cases lx<;>cases lv<;>simp at hlo ⊢
  exact he.eval hlo
 have e2:hx.map c.eval=hv:=by
  cases hx<;>cases hv<;>simp at hhi ⊢
  exact he.eval hhi
 have g1:(0:Int)<=(lo:Int)/\(lo:Int)<=(hi:Int):=by omega
 have g2:(0:Int)<=(hi:Int)/\(hi:Int)<=(cap:Int):=by omega
 unfold execOp
 rcases h1 with⟨rfl,rfl⟩|rfl<;>rcases h2 with⟨rfl,rfl⟩|rfl<;>
  simp only[hop,he.eval vT,e1,e2,Instr.sliceAt,Instr.slice,Instr.sliceBounds,Instr.sliceBound,asIntOf,Option.map_none,Sem.run_bind,Sem.run_pure,Result.andThen_ok,run_underlying hu,run_sizeOf hk,g1,g2,and_self,if_true,Int.toNat_natCast,Option.isSome_none,Bool.false_eq_true,if_false]
theorem Va{α:Type}{C:Cd α}{N:Hp}{A:Option Addr}{c:Nat}{xs:List α}{lx hx:Option Operand}{lv hv:Option Value}(lo hi:Nat)(hop:o.op=.slice T x lx hx none)(vT:oev L x=some (.slice A xs.length c))(hlo:lx.map (oev L)=lv.map some)(hhi:hx.map (oev L)=hv.map some)(hT:jt P T C)
  (h1:(lv=none/\lo=0)\/lv=some (.int .i64 (lo:Int)))(h2:(hv=none/\hi=xs.length)\/hv=some (.int .i64 (hi:Int)))(hle:lo<=hi)(hc:hi<=xs.length)(h:aJ C N A c xs):
  ∃A' c',Run P o L w (.slice A' ((xs.take hi).drop lo).length c') w/\aJ C N A' c' ((xs.take hi).drop lo):=by
 obtain⟨zv,hu,h2',h3,h4,h5⟩:=hT
 obtain⟨inf,sH,hz,hs,h8⟩:=info_parts h2'
 have hlen:((xs.take hi).drop lo).length=hi-lo:=by simp;omega
 refine⟨if c=lo then A else A.map (·.add (lo*C.k)),c-lo,?_,?_⟩
 ·rw[hlen]
  exact aaP (P:=P) (w:=w) (size:=C.k) hop vT hlo hhi hu (by rw[sH];simp[hs]) h1 h2 hle (by have:=h.1;omega)
 ·have hroom:=h.2.1
  refine⟨by rw[hlen];have:=h.1;omega,Nat.le_trans (Nat.mul_le_mul_right _ (by rw[hlen];omega)) hroom,fun h0=>?_⟩
  rw[hlen]at h0
  obtain⟨e,cs,T',fz,hcs,hat⟩:=h.2.2 (by omega)
  have hcl:¬c=lo:=by have:=h.1;omega
  rw[if_neg hcl,e]
  simp only[Option.map_some,LG,adB,qP]
  refine⟨trivial,cs,T',fz,hcs,fun j u hu=>?_⟩
  have hj:j<(hi-lo)*C.k:=by
   have:=(List.getElem?_eq_some_iff.1 hu).1
   rwa [oq C.hf,hlen]at this
  have qL:j/C.k<hi-lo:=(Nat.div_lt_iff_lt_mul h4).2 hj
  have zB:j%C.k<C.k:=Nat.mod_lt _ h4
  have em:j/C.k*C.k+j%C.k=j:=by rw[Nat.mul_comm];exact Nat.div_add_mod j C.k
  have g1:=pQ C.hf (xs:=xs) (i:=lo+j/C.k) (by omega) zB
  have g2:=pQ C.hf (xs:=(xs.take hi).drop lo) (i:=j/C.k) (by rw[hlen];exact qL) zB
  rw[em]at g2
  rw[g2]at hu
  have e2:((xs.take hi).drop lo)[j/C.k]'(by rw[hlen];exact qL)=xs[lo+j/C.k]'(by omega):=by
   rw[List.getElem_drop,List.getElem_take]
  rw[e2,<-g1]at hu
  have:=hat _ u hu
  rw[show qP A+((lo+j/C.k)*C.k+j%C.k)=qP A+lo*C.k+j by rw[Nat.add_mul];omega]at this
  exact this
theorem abe{α:Type}{C:Cd α}{N:Hp}{A:Option Addr}{c:Nat}{xs:List α}{hx:Operand}(k:Nat)(hop:o.op=.slice T x none (some hx) none)(hd:o.dst=some d)(hn:Nat.blt d n=true)(vT:oev L x=some (.slice A xs.length c))(hhi:oev L hx=some (.int .i64 a))(hT:jt P T C)(ha:a=(k:Int))(hk:k<=xs.length)(hr:aJ C N A c xs)
  (h:∀A' c',aJ C N A' c' (xs.take k)->Kt ((d,.slice A' (xs.take k).length c')::L) w):WO P n o L w Kt:=by
 subst ha
 obtain⟨A',c',h1,h2⟩:=Va (P:=P) (w:=w) 0 k hop vT (lv:=none) (hv:=some (.int .i64 (k:Int))) rfl (by simpa using hhi) hT (.inl ⟨rfl,rfl⟩) (.inr rfl) (Nat.zero_le _) hk hr
 exact bT hd hn h1 (h _ _ h2)
theorem abf{α:Type}{C:Cd α}{N:Hp}{A:Option Addr}{c:Nat}{xs:List α}{lx:Operand}(k:Nat)(hop:o.op=.slice T x (some lx) none none)(hd:o.dst=some d)(hn:Nat.blt d n=true)(vT:oev L x=some (.slice A xs.length c))(hlo:oev L lx=some (.int .i64 a))(hT:jt P T C)(ha:a=(k:Int))(hk:k<=xs.length)(hr:aJ C N A c xs)
  (h:∀A' c',aJ C N A' c' (xs.drop k)->Kt ((d,.slice A' (xs.drop k).length c')::L) w):WO P n o L w Kt:=by
 subst ha
 obtain⟨A',c',h1,h2⟩:=Va (P:=P) (w:=w) k xs.length hop vT (lv:=some (.int .i64 (k:Int))) (hv:=none) (by simpa using hlo) rfl hT (.inr rfl) (.inl ⟨rfl,rfl⟩) hk (Nat.le_refl _) hr
 rw[List.take_length]at h1 h2
 exact bT hd hn h1 (h _ _ h2)
theorem aag{α:Type}{C:Cd α}{pa:Array (Nat×Operand)}(hop:o.op=.buildSlice T 0 pa)(ye:pa=#[])(hd:o.dst=some d)(hn:Nat.blt d n=true)(hT:jt P T C)(S:SH w M X H)
  (h:∀v w',SH w' M X (Rs.row C v []::H)->Kt ((d,v)::L) w'):WO P n o L w Kt:=by
 obtain⟨zv,h1,h2,h3,h4,h5⟩:=hT
 obtain⟨inf,sH,hz,hs,h8⟩:=info_parts h2
 subst ye
 refine bT (v:=.slice (some ⟨w.heap.size,0,none⟩) 0 0) (w':=w.alloc (.cells #[] C.E)) hd hn ?_ (h _ _ ?_)
 ·intro n c he
  unfold execOp
  simp only[hop,List.map_toArray,List.map_nil,Instr.buildSlice,run_underlying h1,sizeOf,typeInfo,run_program,sH,Sem.run_bind,Sem.run_pure,Result.andThen_ok,Nat.zero_mul]
  simp[Instr.fill,newRow,Array.range]
 ·refine S.cons (BB w _) (BA w _) ?_ (fun b hb=>by simp[Rs.row,Value.ownBlock]at hb;subst hb;rw[wC];omega)
  exact .inr ⟨w.heap.size,0,#[],rfl,heap_alloc_new w _,Nat.le_refl _,Nat.zero_le _,by simp,by simp⟩
theorem uH{α:Type}{C:Cd α}{len:Nat}{pa:Array (Nat×Operand)}{ps:List (Nat×Operand)}{vs:List (Nat×Value)}{pl:List (Nat×Nat)}(hop:o.op=.buildSlice T len pa)(ye:pa=ps.toArray)(hd:o.dst=some d)(hn:Nat.blt d n=true)(hT:jt P T C)(hps:partL L ps=some vs)(hpl:plOk C.k 0 pl=true)
  (hl:fillL pl (List.flatten (List.replicate len (C.f C.z))) vs=some l)(hsm:Nat.ble (len*C.k) 16777216=true)(hlen:Nat.blt 0 len=true)(S:SH w M X H)
  (h:∀g w',SH w' M X (Rs.box g C.E l::H)->Kt ((d,.slice (some ⟨g,0,none⟩) len len)::L) w'):WO P n o L w Kt:=by
 obtain⟨zv,h1,h2,h3,h4,h5⟩:=hT
 obtain⟨inf,sH,hz,hs,h8⟩:=info_parts h2
 have P6:zv.cells.size=C.k:=by rw[<-C.hf C.z,<-h3];simp
 subst ye
 have hzl:((Array.range (len*C.k)).map (zv.cells[·%zv.cells.size]!)).toList=List.flatten (List.replicate len (C.f C.z)):=by
  have e0:List.flatten (List.replicate len (C.f C.z))=(List.replicate len C.z).flatMap C.f:=by
   rw[List.flatMap_def,List.map_replicate]
  rw[e0]
  apply List.ext_getElem?
  intro q
  by_cases hq:q<len*C.k
  ·have hi:q/C.k<(List.replicate len C.z).length:=by rw[List.length_replicate];exact(Nat.div_lt_iff_lt_mul h4).2 hq
   have hj:q%C.k<C.k:=Nat.mod_lt _ h4
   have e:=pQ C.hf hi hj
   rw[show q/C.k*C.k+q%C.k=q by rw[Nat.mul_comm];exact Nat.div_add_mod q C.k]at e
   rw[e,List.getElem_replicate,<-h3]
   simp only[P6,Array.toList_map,Array.toList_range,List.getElem?_map,List.getElem?_range hq,Option.map_some]
   rw[Array.getElem!_eq_getD]
   simp[P6,hj]
  ·rw[List.getElem?_eq_none,List.getElem?_eq_none]
   ·rw[oq C.hf,List.length_replicate];omega
   ·simp;omega
 have hf:Instr.fill (fun i=>some (i*C.k,C.k)) ((Array.range (len*C.k)).map (zv.cells[·%zv.cells.size]!)) vs=some l.toArray:=
  LF (pl:=pl) (fun i p hp=>by rw[Le hpl i p hp,Nat.zero_add]) vs _ l (by rw[hzl];exact hl)
 have hlen':0<len:=by simpa using hlen
 have hr:=run_buildSlice (P:=P) w T C.E len vs.toArray l.toArray inf zv h1 sH hz (by rw[hs];have:=Nat.le_of_ble_eq_true hsm;omega) (by rw[hs];have:=Nat.mul_pos hlen' h4;omega) (by rw[hs];exact hf)
 refine bT (v:=.slice (some ⟨w.heap.size,0,none⟩) len len) (w':=w.alloc (.cells l.toArray C.E)) hd hn ?_ (h _ _ (S.IV C.E l))
 intro n c he
 unfold execOp
 simp only[hop,List.map_toArray,H7 he hps,hr,Sem.run_bind,Sem.run_pure,Result.andThen_ok]
theorem SH.H8{α:Type}{C:Cd α}{zs:List α}(S:SH w M X H)(hi:nth H i=some (Rs.box g E l))(hl:l=zs.flatMap C.f)(hr:zs.length*C.u8<=140737488355328):aJ C (M.un (XH w X H).h) (some ⟨g,0,none⟩) zs.length zs:=by
 refine⟨Nat.le_refl _,hr,fun _=>⟨rfl,l.toArray,E,(0,0),S.YG hi,fun j u hu=>?_⟩⟩
 rw[<-hl]at hu
 simpa[qP]using hu
theorem aaS{A:Option Addr}{m c:Nat}{y:Operand}(hop:o.op=.binOp .eql t x y t')(hx:oev L x=some (.slice A m c))(hy:oev L y=some (.slice none 0 0))(hu:P.underlying t=some (.slice E)):Run P o L w (.bool A.isNone) w:=by
 intro n c' he
 have hg:∀w,(eqGuard .eql t x y (.slice A m c) (.slice none 0 0)).run P w=.ok () w:=by
  intro w;unfold eqGuard;simp
 unfold execOp
 simp only[hop,he.eval hx,he.eval hy,hg,binOp,Sem.run_bind,Sem.run_pure,Result.andThen_ok,run_equal_slice_nil w t E A m c hu]
end
section
variable {α : Type} {C : Cd α} {N : Hp} {vs : List ei} {xss : List (List α)}
end
end Go.Proofs.YtcohmplpgcddiaaGreatDoor
namespace Go.Proofs.YtcohmplpgcddiaaGreatDoor
open Go.ChangeShapes Go.WideShapes Go.ChangeAt Go.RowKit
section
variable {P : Program} {f : FuncId} {vs vs' : List Value} {w : World} {M : Hp} {X : Fr}
theorem Cq.cast{R:Value->Prop}(h:vs=vs')(c:Cq P f vs' w M X R):Cq P f vs w M X R:=h▸c
theorem ia.at_{α:Type}{C:Cd α}{ss:List ei}{xss:List (List α)}{H:List Rs}(_:SH w M X H)(h:ia C (M.un (XH w X H).h) ss xss):ia C (M.un (XH w X H).h) ss xss:=h
end
end Go.Proofs.YtcohmplpgcddiaaGreatDoor
namespace Go.Proofs.YtcohmplpgcddiaaGreatDoor
open Go.ChangeShapes Go.WideShapes Go.ChangeAt Go.RowKit
def ei.v(s:ei):Value:=.slice s.A s.n s.c
section
variable {α : Type} {C : Cd α} {xs zs : List α} {v : Value} {w w' : World} {M : Hp} {X : Fr} {H H' : List Rs} {i q g k : Nat} {T : TypeId} {l : List Value} {vs : List ei} {xss : List (List α)} {r s t : Rs}
theorem SK{β:Type}[Inhabited β](xs:List β)(i j:Nat)(y:β)(h:i≠j):ga (xs.set i y) j=ga xs j:=by
 unfold ga
 rw[List.getD_eq_getElem?_getD,List.getD_eq_getElem?_getD,List.getElem?_set,if_neg h]
theorem SH.qi(S:SH w M X H)(zs:List α)(hi:nth H i=some (Rs.box g C.E l))(hl:l=zs.flatMap C.f)(hm:zs.length<=16777216)(hH:H.set i (Rs.row C (.slice (some ⟨g,0,none⟩) zs.length zs.length) zs)=H'):SH w M X H':=by
 have hb:hp w g=some (.cells l.toArray C.E (0,0)):=S.get hi
 refine S.step hi hH (ku.refl w) (fun _ _ _=>rfl) (.inr ⟨g,zs.length,l.toArray,rfl,hb,Nat.le_refl _,by unfold maxLen;omega,by rw[hl];simpa using oq C.hf zs,?_⟩) (fun b hb'=>⟨.inl ?_,?_⟩)
 ·rw[hl,List.take_of_length_le (by rw[List.toList_toArray,oq C.hf];exact Nat.le_refl _)]
 ·simpa[Rs.row,Value.ownBlock,Rs.box]using hb'
 ·simp[Rs.row,Value.ownBlock]at hb'
  subst hb'
  exact kv hb
theorem lD.cell [Inhabited α](h:lD C v xs (hp w)){e j:Nat}{u:Value}(he:e<xs.length)(hj:Nat.blt j C.k=true)(hu:nth (C.f (ga xs e)) j=some u):w.cell? ⟨rb v,e*C.k+j,none⟩=some u:=by
 rcases h with⟨_,h2⟩|⟨g,cap,cur,rfl,h2,h3,h4,h5,h6⟩
 ·rw[h2]at he;simp at he
 ·have hj':j<C.k:=by simpa using hj
  show w.cell? ⟨g,e*C.k+j,none⟩=some u
  rw[cell_of_row w g _ cur C.E (0,0) h2]
  have hlt:e*C.k+j<xs.length*C.k:=by
   have:=Nat.mul_le_mul_right C.k (show e+1<=xs.length by omega)
   rw[Nat.succ_mul]at this
   omega
  have h7:=pQ C.hf (xs:=xs) he hj'
  rw[<-h6,List.getElem?_take,if_pos hlt,<-cZ he,<-ig (C.f (ga xs e)),hu]at h7
  simpa using h7
end
section
variable {P : Program} {o : Oper} {L : List (Nat × Value)} {w w' : World} {x y z : Operand} {t t' T E : TypeId} {a b : Int} {v u : Value} {n d : Nat} {Kt : List (Nat × Value) → World → Prop} {M M' : Hp} {X : Fr} {H H' : List Rs} {i k g off : Nat} {l : List Value}
end
end Go.Proofs.YtcohmplpgcddiaaGreatDoor
namespace Go.Proofs.YtcohmplpgcddiaaGreatDoor
open Go.ChangeShapes Go.WideShapes Go.ChangeAt Go.RowKit
theorem zP{P:Program}{n:Nat}{C:Ctx}{c:Code}{s:List K}{L:List (Nat×Value)}{w:World}{M:Hp}{X:Fr}(N Hb:List Rs)(hk:kind c=8)(hm:P.follows .mixedOrders=true)(S:SH w M X (N++Hb))(f:Nat)(hf:(rg c).size=f)(h:WA P n C c s X f (Array.replicate f false) L M Hb M (N++Hb)):WS P n C c s L w:=by
 intro a ha
 rw[HM hk]
 refine wp_region_any hm ?_
 rw[hf]
 exact ke.any _ _ _ _ _ _ _ _ (S.kp ⟨rfl,rfl,rfl,Nat.le_refl _⟩ fun _ _=>rfl) (HF _) (h ⟨Hp.le_refl _,N,rfl⟩ a ha)
def FE(P:Program)(f:Field)(p:Nat×Bool):Prop:=
 (f.name== "_")=false/\f.offset=p.1/\(match p.2 with|true=>P.underlying f.type=some .bool|false=>∃k,P.underlying f.type=some (.int k))
def xN(xs ys:List Value):List (Nat×Bool)->Prop->Prop
 |[],Q=>Q=True
 |[(o,false)],Q=>∃k x y,nth xs o=some (.int k x)/\nth ys o=some (.int k y)/\Q=(x=y)
 |[(o,true)],Q=>∃x y,nth xs o=some (.bool x)/\nth ys o=some (.bool y)/\Q=(x=y)
 |(o,false)::r,Q=>∃k x y Q',nth xs o=some (.int k x)/\nth ys o=some (.int k y)/\xN xs ys r Q'/\Q=(x=y/\Q')
 |(o,true)::r,Q=>∃x y Q',nth xs o=some (.bool x)/\nth ys o=some (.bool y)/\xN xs ys r Q'/\Q=(x=y/\Q')
def Gk(P:Program)(T:TypeId)(pl:List (Nat×Bool)):Prop:=
 ∃fs:List Field,P.underlying T=some (.struct fs.toArray)/\Ef (FE P) fs pl/\P.stoodInHeld T=false/\P.eqGuardType P.depth T=false
section
variable {P : Program}
theorem UW{xs ys:List Value}{o:Nat}{b:Bool}:∀{r:List (Nat×Bool)}{Q:Prop},xN xs ys ((o,b)::r) Q->∃Q1 Q2,(match b with|false=>∃k x y,nth xs o=some (.int k x)/\nth ys o=some (.int k y)/\Q1=(x=y)|true=>∃x y,nth xs o=some (.bool x)/\nth ys o=some (.bool y)/\Q1=(x=y))/\xN xs ys r Q2/\(Q<->Q1/\Q2)
 |[],Q,h=>by
  cases b with
  |false=>obtain⟨k,x,y,h1,h2,rfl⟩:=h;exact⟨_,True,⟨k,x,y,h1,h2,rfl⟩,rfl,by simp⟩
  |true=>obtain⟨x,y,h1,h2,rfl⟩:=h;exact⟨_,True,⟨x,y,h1,h2,rfl⟩,rfl,by simp⟩
 |(_::_),Q,h=>by
  cases b with
  |false=>obtain⟨k,x,y,Q',h1,h2,h3,rfl⟩:=h;exact⟨_,Q',⟨k,x,y,h1,h2,rfl⟩,h3,Iff.rfl⟩
  |true=>obtain⟨x,y,Q',h1,h2,h3,rfl⟩:=h;exact⟨_,Q',⟨x,y,h1,h2,rfl⟩,h3,Iff.rfl⟩
theorem CU{T:TypeId}{dd:TypeDesc}{cs:List Value}{o:Nat}{v:Value}{w:World}(hu:P.underlying T=some dd)(hd:ud dd=true)(hv:nth cs o=some v):(part T cs.toArray o).run P w=.ok v w:=by
 rw[ig]at hv
 simp only[part,Sem.run_bind,DG hu,hd,Result.andThen_ok,Bool.not_true,Bool.false_eq_true,if_false,List.getElem?_toArray,hv,Sem.run_pure]
theorem Ry{xs ys:List Value}{w:World}:∀{fs:List Field}{pl:List (Nat×Bool)}{Q:Prop},Ef (FE P) fs pl->xN xs ys pl Q->∃r:Bool,(Op.eqFields 9999 xs.toArray ys.toArray fs).run P w=.ok r w/\(r=true<->Q)
 |[],[],Q,_,h=>⟨true,rfl,by rw[show Q=True from h];simp⟩
 |f::fs,(o,b)::pl,Q,ha,h=>by
  obtain⟨⟨hn,ho,hu⟩,ha⟩:=ha
  obtain⟨Q1,Q2,h1,h2,ai4⟩:=UW h
  obtain⟨r2,hr2,hi2⟩:=Ry (w:=w) ha h2
  have hne:f.name≠ "_":=by simpa using hn
  simp only at ho
  have key:∃r1:Bool,∃u v,(part f.type xs.toArray f.offset).run P w=.ok u w/\(part f.type ys.toArray f.offset).run P w=.ok v w/\(Op.equalIn 9999 f.type u v).run P w=.ok r1 w/\(r1=true<->Q1):=by
   cases b with
   |false=>
    obtain⟨k,x,y,g1,g2,rfl⟩:=h1
    obtain⟨k',hu⟩:=hu
    exact⟨_,_,_,CU hu rfl (by rw[ho];exact g1),CU hu rfl (by rw[ho];exact g2),run_equalIn_int w 9998 _ _ _ _ _ hu,by simp⟩
   |true=>
    obtain⟨x,y,g1,g2,rfl⟩:=h1
    exact⟨_,_,_,CU hu rfl (by rw[ho];exact g1),CU hu rfl (by rw[ho];exact g2),run_equalIn_bool' w 9998 _ _ _ hu,by simp⟩
  obtain⟨r1,u,v,k1,k2,k3,k4⟩:=key
  refine⟨r1&&r2,?_,by rw[ai4,<-k4,<-hi2];simp⟩
  rw[Op.eqFields,if_pos hne]
  simp only[Sem.run_bind,k1,k2,k3,Result.andThen_ok]
  cases r1<;>simp[hr2]
 |[],_::_,_,ha,_=>False.elim ha
 |_::_,[],_,ha,_=>False.elim ha
variable {o : Oper} {L : List (Nat × Value)} {w : World} {x y : Operand} {t t' : TypeId}
theorem RA{xs ys:List Value}{pl:List (Nat×Bool)}{Q:Prop}[Decidable Q](hT:Gk P t pl)(he:xN xs ys pl Q):(Op.equalIn 10000 t (.agg xs.toArray) (.agg ys.toArray)).run P w=.ok (decide Q) w:=by
 obtain⟨fs,hu,ha,hs,_⟩:=hT
 have vY:P.fieldsOf t=fs.toArray:=by simp[Program.fieldsOf,hu]
 obtain⟨r,hr,hi⟩:=Ry (w:=w) ha he
 rw[run_equalIn_struct w 9999 t _ _ (by rw[vY];exact hu) hs,vY]
 have:r=decide Q:=by
  by_cases h:Q
  ·rw[decide_eq_true h];exact hi.2 h
  ·rw[decide_eq_false h]
   cases r with
   |false=>rfl
   |true=>exact absurd (hi.1 rfl) h
 rw[<-this]
 exact hr
theorem TB{xs ys:List Value}{pl:List (Nat×Bool)}{Q:Prop}[Decidable Q](hop:o.op=.binOp .neq t x y t')(hx:oev L x=some (.agg xs.toArray))(hy:oev L y=some (.agg ys.toArray))(hT:Gk P t pl)(he:xN xs ys pl Q):Run P o L w (.bool (decide (¬Q))) w:=by
 intro n c' he'
 have hg:=run_eqGuard_agg (P:=P) w .neq t x y xs.toArray ys.toArray hT.choose_spec.2.2.2
 unfold execOp
 simp only[hop,he'.eval hx,he'.eval hy,hg,Sem.run_bind,Sem.run_pure,Result.andThen_ok,run_neq_struct,RA hT he,decide_not]
end
end Go.Proofs.YtcohmplpgcddiaaGreatDoor
namespace Go.Proofs.YtcohmplpgcddiaaGreatDoor
open Go.ChangeShapes Go.WideShapes Go.ChangeAt Go.RowKit
theorem ae1(xs:List Bool)(e:Nat)(h:e<xs.length):nth (xs.map Value.bool) e=some (.bool (ga xs e)):=by
 rw[ig,List.getElem?_map,UO h];rfl
def wr(x:Int):Int:=IntKind.i64.wrap x
theorem afZ{x:Int}(h:-9223372036854775808<=x/\x<=9223372036854775807):wr x=x:=by unfold wr;rw[IntKind.wrap_i64];omega
theorem VT(x y:Int):wr (wr x+y)=wr (x+y):=by unfold wr;rw[IntKind.wrap_i64,IntKind.wrap_i64,IntKind.wrap_i64];omega
section
variable {P : Program} {o : Oper} {L : List (Nat × Value)} {w : World} {x y : Operand} {t t' E : TypeId} {a b : Int}
end
end Go.Proofs.YtcohmplpgcddiaaGreatDoor
namespace Go.Proofs.YtcohmplpgcddiaaGreatDoor
open Go.ChangeShapes Go.WideShapes Go.ChangeAt Go.RowKit
section
variable {κ ε : Type} [DecidableEq κ]
def mg(k:κ):List (κ×ε)->Option ε
 |[]=>none
 |p::r=>if k=p.1 then some p.2 else mg k r
def mp(k:κ)(v:ε):List (κ×ε)->List (κ×ε)
 |[]=>[(k,v)]
 |p::r=>if k=p.1 then(k,v)::r else p::mp k v r
def fk(k:κ):List (κ×ε)->Nat->Option (Nat×ε)
 |[],_=>none
 |p::r,i=>if k=p.1 then some (i,p.2)else fk k r (i+1)
theorem yJ(k k':κ)(v:ε):∀es:List (κ×ε),mg k (mp k' v es)=if k=k' then some v else mg k es
 |[]=>by simp[mp,mg]
 |p::r=>by
  unfold mp
  by_cases h:k'=p.1
  ·rw[if_pos h]
   by_cases h2:k=k'
   ·simp[mg,h2]
   ·have h3:k≠p.1:=fun e=>h2 (e.trans h.symm)
    simp[mg,h2,h3]
  ·rw[if_neg h]
   have ih:=yJ k k' v r
   by_cases h2:k=p.1
   ·have h3:k≠k':=fun e=>h (e.symm.trans h2)
    rw[if_neg h3]
    simp[mg,h2]
   ·simp only[mg,if_neg h2,ih]
theorem EA{k:κ}:∀{es:List (κ×ε)}{i:Nat},fk k es i=none->mg k es=none/\∀v,mp k v es=es++[(k,v)]
 |[],_,_=>⟨rfl,fun _=>rfl⟩
 |p::r,i,h=>by
  unfold fk at h
  split at h
  ·cases h
  ·rename_i hne
   obtain⟨h1,h2⟩:=EA h
   exact⟨by simp[mg,hne,h1],fun v=>by simp[mp,hne,h2 v]⟩
theorem Ez{k:κ}:∀{es:List (κ×ε)}{i j:Nat}{v:ε},fk k es i=some (j,v)->mg k es=some v/\∃m,j=i+m/\∃p,es[m]? =some p/\p.1=k/\∀v',mp k v' es=es.set m (k,v')
 |p::r,i,j,v,h=>by
  unfold fk at h
  split at h
  ·rename_i he
   injection h with h
   injection h with h1 h2
   exact⟨by simp[mg,he,h2],0,by omega,p,rfl,he.symm,fun v'=>by simp[mp,he]⟩
  ·rename_i hne
   obtain⟨h1,m,h2,q,h3,h4,h5⟩:=Ez h
   exact⟨by simp[mg,hne,h1],m+1,by omega,q,by simpa using h3,h4,fun v'=>by simp[mp,hne,h5 v']⟩
end
structure sM(P:Program)(K:TypeId){κ:Type}[DecidableEq κ](kc:κ->Value):Prop where
 check:∀k w b,(Instr.checkKey b 10000 K (kc k)).run P w=.ok () w
 find:∀(k:κ) (es:List (κ×Value)) (l:List MapEntry) (w:World),l.map (fun e=>(e.key,e.val))=es.map (fun p=>(kc p.1,p.2))->(Instr.findKey K (kc k) l).run P w=.ok (fk k es 0) w
 bits:∀k,Instr.sameBits 10000 (kc k) (kc k)=true
theorem acB{P:Program}{K:TypeId}(hu:P.underlying K=some (.int .i64)):sM P K (Value.int .i64):=by
 have NL:∀(k:Int) (es:List (Int×Value)) (l:List MapEntry) (i:Nat),l.map (fun e=>(e.key,e.val))=es.map (fun p=>(Value.int .i64 p.1,p.2))->Instr.findNow (.int .i64) (.int .i64 k) l i=some (fk k es i):=by
  intro k es
  induction es with
  |nil=>intro l i h;rw[List.map_nil,List.map_eq_nil_iff]at h;subst h;rfl
  |cons p es ih=>
   intro l i h
   cases l with
   |nil=>cases h
   |cons e l=>
    simp only[List.map_cons,List.cons.injEq,Prod.mk.injEq]at h
    unfold Instr.findNow fk
    rw[h.1.1]
    simp only[Instr.sameNow,if_true]
    by_cases hk:k=p.1
    ·simp[hk,h.1.2]
    ·have e1:(k==p.1)=false:=by simpa using hk
     rw[e1,if_neg hk]
     exact ih l (i+1) h.2
 refine⟨fun k w b=>?_,fun k es l w h=>MapKept.run_findKey hu (NL k es l 0 h),fun k=>by simp[Instr.sameBits]⟩
 rw[show(10000:Nat)=9999+1 from rfl]
 unfold Instr.checkKey
 simp only[Sem.run_bind,run_underlying hu,Result.andThen]
 rfl
theorem UG {P : Program} {K : TypeId} {κ : Type} [DecidableEq κ] {f : κ → List Value} {pl : List (Nat × Bool)} (hT : Gk P K pl) (he : ∀ x y, ∃ Q, xN (f x) (f y) pl Q ∧ (Q ↔ x = y)) (hb : ∀ k, Instr.sameBits 10000 (.agg (f k).toArray) (.agg (f k).toArray) = true) : sM P K (fun k => .agg (f k).toArray) := by
  have heq : ∀ (x y : κ) (w : World), (Op.equal K (.agg (f x).toArray) (.agg (f y).toArray)).run P w = .ok (decide (x = y)) w := by
    intro x y w
    obtain ⟨Q, h1, h2⟩ := he x y
    haveI : Decidable Q := decidable_of_iff _ h2.symm
    have := RA (P := P) (w := w) hT h1
    rw [show decide (x = y) = decide Q from decide_eq_decide.2 h2.symm]
    exact this
  have ajK : ∀ (k : κ) (es : List (κ × Value)) (l : List MapEntry) (i : Nat) (w : World), l.map (fun e => (e.key, e.val)) = es.map (fun p => (Value.agg (f p.1).toArray, p.2)) → (Instr.findAsking K (.agg (f k).toArray) l i).run P w = .ok (fk k es i) w := by
    intro k es
    induction es with
    | nil => intro l i w h; rw [List.map_nil, List.map_eq_nil_iff] at h; subst h; rfl
    | cons p es ih =>
      intro l i w h
      cases l with
      | nil => cases h
      | cons e l =>
        simp only [List.map_cons, List.cons.injEq, Prod.mk.injEq] at h
        unfold Instr.findAsking fk
        rw [h.1.1]
        simp only [Sem.run_bind, heq, Result.andThen]
        by_cases hk : k = p.1
        · simp [hk, h.1.2]
        · simp only [hk, decide_false, Bool.false_eq_true, if_false]
          exact ih l (i + 1) w h.2
  obtain ⟨fs, hu, ha, hs, _⟩ := hT
  refine ⟨fun k w b => ?_, fun k es l w h => ?_, hb⟩
  · have vY : ∀ (fs : List Field) (pl : List (Nat × Bool)) (Q : Prop), Ef (FE P) fs pl → xN (f k) (f k) pl Q → ((forIn fs PUnit.unit fun (ym : Field) (_ : PUnit) => if ym.name ≠ "_" then (do
        let x ← part ym.type (f k).toArray ym.offset
        Instr.checkKey b 9999 ym.type x
        pure (ForInStep.yield PUnit.unit) : Sem (ForInStep PUnit)) else pure (ForInStep.yield PUnit.unit)) : Sem PUnit).run P w = .ok () w := by
      intro fs
      induction fs with
      | nil => intro pl Q _ _; rfl
      | cons ym fs ih =>
        intro pl Q ha h
        cases pl with
        | nil => exact False.elim ha
        | cons p pl =>
          obtain ⟨o, bb⟩ := p
          obtain ⟨⟨hn, ho, hu'⟩, ha⟩ := ha
          obtain ⟨Q1, Q2, h1, h2, _⟩ := UW h
          have hne : ym.name ≠ "_" := by simpa using hn
          simp only at ho
          have key : ∃ u, (part ym.type (f k).toArray ym.offset).run P w = .ok u w ∧ (Instr.checkKey b 9999 ym.type u).run P w = .ok () w := by
            cases bb with
            | false =>
              obtain ⟨q, x, y, g1, _, _⟩ := h1
              obtain ⟨k', hu'⟩ := hu'
              refine ⟨_, CU hu' rfl (by rw [ho]; exact g1), ?_⟩
              rw [show (9999 : Nat) = 9998 + 1 from rfl]
              unfold Instr.checkKey
              simp only [Sem.run_bind, run_underlying hu', Result.andThen]
              rfl
            | true =>
              obtain ⟨x, y, g1, _, _⟩ := h1
              refine ⟨_, CU hu' rfl (by rw [ho]; exact g1), ?_⟩
              rw [show (9999 : Nat) = 9998 + 1 from rfl]
              unfold Instr.checkKey
              simp only [Sem.run_bind, run_underlying hu', Result.andThen]
              rfl
          obtain ⟨u, k1, k2⟩ := key
          have := ih pl Q2 ha h2
          rw [List.forIn_cons]
          simp only [if_pos hne, Sem.run_bind, k1, k2, Result.andThen, Sem.run_pure]
          exact this
    obtain ⟨Q, h1, _⟩ := he k k
    have := vY fs pl Q ha h1
    rw [show (10000 : Nat) = 9999 + 1 from rfl]
    unfold Instr.checkKey
    simp only [Sem.run_bind, run_underlying hu, Result.andThen]
    rw [← Array.forIn_toList, List.toList_toArray]
    rw [this]
    rfl
  · unfold Instr.findKey
    simp only [Sem.run_bind, run_underlying hu, Result.andThen]
    cases l with
    | nil =>
      cases es with
      | nil => simp [Instr.findNow, fk]
      | cons p es => cases h
    | cons e l =>
      have hn : Instr.findNow (.struct fs.toArray) (.agg (f k).toArray) (e :: l) 0 = none := by
        unfold Instr.findNow
        simp [Instr.sameNow]
      rw [hn]
      exact ajK k es (e :: l) 0 w h
def Ea(arr:Array MapEntry)(clock:Nat):Prop:=(arr.toList.map (·.born)).Nodup/\∀e∈arr.toList,e.born<clock
def rD{κ ε:Type}(kc:κ->Value)(vc:ε->Value)(g:Nat)(es:List (κ×ε))(h:Hp):Prop:=
 ∃arr clock,h g=some (.map arr clock)/\arr.toList.map (fun e=>(e.key,e.val))=es.map (fun p=>(kc p.1,vc p.2))/\Ea arr clock
def Rs.mp{κ ε:Type}(kc:κ->Value)(vc:ε->Value)(g:Nat)(es:List (κ×ε)):Rs:=
 ⟨[g],rD kc vc g es,fun h h' hb hk=>by
  obtain⟨arr,clock,h1,h2⟩:=hk
  exact⟨arr,clock,by rw[hb g (by simp)];exact h1,h2⟩⟩
section
variable {P : Program} {o : Oper} {L : List (Nat × Value)} {w w' : World} {x y z : Operand} {t T K E : TypeId} {v u : Value} {n d g i : Nat} {Kt : List (Nat × Value) → World → Prop} {M M' : Hp} {X : Fr} {H H' : List Rs}
variable {κ ε : Type} [DecidableEq κ] {kc : κ → Value} {vc : ε → Value} {es : List (κ × ε)}
theorem xJ(κ ε:Type)(kc:κ->Value)(vc:ε->Value)(hop:o.op=.makeMap T none)(hd:o.dst=some d)(hn:Nat.blt d n=true)(S:SH w M X H)
  (h:∀g w',SH w' M X (Rs.mp kc vc g ([]:List (κ×ε))::H)->Kt ((d,.map (some g))::L) w'):WO P n o L w Kt:=by
 refine bT (v:=.map (some w.heap.size)) (w':=w.alloc (.map #[] 0)) hd hn ?_ (h _ _ ?_)
 ·intro n c he
  unfold execOp
  simp only[hop,Option.map_none,run_makeMap,Sem.run_bind,Result.andThen_ok,Sem.run_pure]
 ·exact S.cons (BB w _) (BA w _) ⟨#[],0,heap_alloc_new w _,rfl,by simp[Ea]⟩ (fun b hb=>by simp[Rs.mp]at hb;subst hb;rw[wC];omega)
omit [DecidableEq κ] in
theorem Lh{arr:Array MapEntry}(h:arr.toList.map (fun e=>(e.key,e.val))=es.map (fun p=>(kc p.1,vc p.2))):arr.toList.map (fun e=>(e.key,e.val))=(es.map (fun p=>(p.1,vc p.2))).map (fun p=>(kc p.1,p.2)):=by
 rw[h,List.map_map];rfl
theorem IZ(k:κ):∀(es:List (κ×ε)) (i:Nat),fk k (es.map (fun p=>(p.1,vc p.2))) i=(fk k es i).map (fun q=>(q.1,vc q.2))
 |[],_=>rfl
 |p::r,i=>by
  simp only[List.map_cons,fk]
  split
  ·rfl
  ·exact IZ k r (i+1)
theorem SH.look{k:κ}{zv:ε}(S:SH w M X H)(hi:nth H i=some (Rs.mp kc vc g es))(hu:P.underlying T=some (.map K E))(hK:sM P K kc)(hz:(P.info? E).map (·.zero)=some (some (vc zv))):(Instr.lookup T (.map (some g)) (kc k) false).run P w=.ok (vc ((mg k es).getD zv)) w/\(Instr.lookup T (.map (some g)) (kc k) true).run P w=.ok (.tuple #[vc ((mg k es).getD zv),.bool (mg k es).isSome]) w:=by
 obtain⟨arr,clock,hg,ha,oN⟩:=(S.get hi:rD kc vc g es (hp w))
 have hf:=hK.find k _ arr.toList w (Lh ha)
 rw[IZ]at hf
 have hg':w.heap[g]? =some (.map arr clock):=hg
 have hgo:=MapKept.run_getObj_map (P:=P) hg'
 have hc:=fun b=>hK.check k w b
 cases mC:fk k es 0 with
 |none=>
  rw[mC]at hf
  have hm:=(EA mC).1
  constructor
  ·simp only[Instr.lookup,Sem.run_bind,run_underlying hu,hgo,hc,hf,Result.andThen_ok,Sem.run_pure,Em hz,Option.map_none,hm,Option.getD_none]
   rfl
  ·simp only[Instr.lookup,Sem.run_bind,run_underlying hu,hgo,hc,hf,Result.andThen_ok,Sem.run_pure,Em hz,Option.map_none,hm,Option.getD_none]
   rfl
 |some q=>
  obtain⟨j,v⟩:=q
  rw[mC]at hf
  have hm:=(Ez mC).1
  constructor
  ·simp only[Instr.lookup,Sem.run_bind,run_underlying hu,hgo,hc,hf,Result.andThen_ok,Sem.run_pure,Option.map_some,hm,Option.getD_some]
   rfl
  ·simp only[Instr.lookup,Sem.run_bind,run_underlying hu,hgo,hc,hf,Result.andThen_ok,Sem.run_pure,Option.map_some,hm,Option.getD_some]
   rfl
theorem zn{k:κ}{zv:ε}(hop:o.op=.lookup T x y false)(hx:oev L x=some (.map (some g)))(hy:oev L y=some (kc k))(hu:P.underlying T=some (.map K E))(hK:sM P K kc)(hz:(P.info? E).map (·.zero)=some (some (vc zv)))(S:SH w M X H)(hi:nth H i=some (Rs.mp kc vc g es)):Run P o L w (vc ((mg k es).getD zv)) w:=by
 intro n c he
 unfold execOp
 simp only[hop,he.eval hx,he.eval hy,(S.look hi hu hK hz).1,Sem.run_bind,Result.andThen_ok,Sem.run_pure]
theorem KY{k:κ}{zv:ε}(hop:o.op=.lookup T x y true)(hx:oev L x=some (.map (some g)))(hy:oev L y=some (kc k))(hu:P.underlying T=some (.map K E))(hK:sM P K kc)(hz:(P.info? E).map (·.zero)=some (some (vc zv)))(S:SH w M X H)(hi:nth H i=some (Rs.mp kc vc g es)):Run P o L w (.tuple #[vc ((mg k es).getD zv),.bool (mg k es).isSome]) w:=by
 intro n c he
 unfold execOp
 simp only[hop,he.eval hx,he.eval hy,(S.look hi hu hK hz).2,Sem.run_bind,Result.andThen_ok,Sem.run_pure]
theorem Li(w:World)(g:Nat)(ob:Obj):ku w {w with heap:=w.heap.setIfInBounds g ob}:=⟨rfl,rfl,rfl,by simp⟩
theorem ou{k:κ}{e:ε}(hop:o.op=.mapUpdate T x y z\/o.op=.insert T x y z)(hd:o.dst=none)(S:SH w M X H)(hi:nth H i=some (Rs.mp kc vc g es))(hx:oev L x=some (.map (some g)))(hy:oev L y=some (kc k))(hz:oev L z=some (vc e))(hu:P.underlying T=some (.map K E))(hK:sM P K kc)
  (hH:H.set i (Rs.mp kc vc g (Go.Proofs.YtcohmplpgcddiaaGreatDoor.mp k e es))=H')(h:∀w',SH w' M X H'->Kt L w'):WO P n o L w Kt:=by
 obtain⟨arr,clock,hg,ha,oN⟩:=(S.get hi:rD kc vc g es (hp w))
 have hf:=hK.find k _ arr.toList w (Lh ha)
 rw[IZ]at hf
 have hg':w.heap[g]? =some (.map arr clock):=hg
 have hgo:=MapKept.run_getObj_map (P:=P) hg'
 have hc:=fun b=>hK.check k w b
 have key:∃qz clock',(Instr.mapUpdate T (.map (some g)) (kc k) (vc e)).run P w=.ok () {w with heap:=w.heap.setIfInBounds g (.map qz clock')}/\qz.toList.map (fun e=>(e.key,e.val))=(Go.Proofs.YtcohmplpgcddiaaGreatDoor.mp k e es).map (fun p=>(kc p.1,vc p.2))/\Ea qz clock':=by
  cases mC:fk k es 0 with
  |none=>
   rw[mC]at hf
   refine⟨arr.push {key:=kc k,val:=vc e,born:=clock},clock+1,?_,?_,?_⟩
   ·simp only[Instr.mapUpdate,Sem.run_bind,run_underlying hu,hgo,hc,hf,Result.andThen_ok,Option.map_none,MapKept.run_setObj_map _ hg']
   ·rw[(EA mC).2 e,Array.toList_push,List.map_append,List.map_append,ha];rfl
   ·refine⟨?_,fun x hx=>?_⟩
    ·rw[Array.toList_push,List.map_append]
     refine List.nodup_append.2 ⟨oN.1,by simp,fun a ha' b hb'=>?_⟩
     obtain⟨x,hx,rfl⟩:=List.mem_map.1 ha'
     simp at hb'
     have:=oN.2 x hx
     omega
    ·rw[Array.toList_push]at hx
     rcases List.mem_append.1 hx with h1|h1
     ·have:=oN.2 x h1;omega
     ·simp at h1;subst h1;exact Nat.lt_succ_self _
  |some q=>
   obtain⟨j,v⟩:=q
   rw[mC]at hf
   obtain⟨_,m,hj,p,hp1,hp2,qu⟩:=Ez mC
   obtain rfl:j=m:=by omega
   have hlen:arr.toList.length=es.length:=by have:=congrArg List.length ha;simpa using this
   have hjl:j<es.length:=(List.getElem?_eq_some_iff.1 hp1).1
   have hja:j<arr.size:=by rw[<-Array.length_toList,hlen];exact hjl
   have hkey:(arr[j]?).map (·.key)=some (kc k):=by
    have h1:=congrArg (fun l=>l[j]?) ha
    simp only[List.getElem?_map,hp1,Option.map_some]at h1
    rw[Array.getElem?_toList,Array.getElem?_eq_getElem hja]at h1
    rw[Array.getElem?_eq_getElem hja]
    simp only[Option.map_some,Option.some.injEq,Prod.mk.injEq]at h1 ⊢
    rw[h1.1,hp2]
   refine⟨arr.modify j fun e'=>{e' with key:=kc k,val:=vc e},clock,?_,?_,?_⟩
   ·have hst:(Instr.keyThatStays (kc k) (kc k)).run P w=.ok (kc k) w:=by
     unfold Instr.keyThatStays
     rw[if_pos (hK.bits k)];rfl
    simp only[Instr.mapUpdate,Sem.run_bind,run_underlying hu,hgo,hc,hf,Result.andThen_ok,Option.map_some,hkey,Option.getD_some,hst,MapKept.run_setObj_map _ hg']
   ·rw[qu e]
    apply List.ext_getElem?
    intro q
    have h1:=congrArg (fun l=>l[q]?) ha
    simp only[List.getElem?_map]at h1 ⊢
    rw[Array.getElem?_toList,Array.getElem?_modify,List.getElem?_set]
    rw[Array.getElem?_toList]at h1
    by_cases hq:j=q
    ·subst hq
     rw[if_pos rfl,if_pos rfl,if_pos hjl,Array.getElem?_eq_getElem hja]
     rfl
    ·rw[if_neg hq,if_neg hq]
     exact h1
   ·have hb:(arr.modify j fun e'=>{e' with key:=kc k,val:=vc e}).toList.map (·.born)=arr.toList.map (·.born):=by
     apply List.ext_getElem?
     intro q
     simp only[List.getElem?_map]
     rw[Array.getElem?_toList,Array.getElem?_modify,Array.getElem?_toList]
     by_cases hq:j=q
     ·subst hq;rw[if_pos rfl,Array.getElem?_eq_getElem hja];rfl
     ·rw[if_neg hq]
    refine⟨by rw[hb];exact oN.1,fun x hx=>?_⟩
    have h2:x.born∈arr.toList.map (·.born):=by rw[<-hb];exact List.mem_map.2 ⟨x,hx,rfl⟩
    obtain⟨y,hy,e2⟩:=List.mem_map.1 h2
    rw[<-e2];exact oN.2 y hy
 obtain⟨qz,clock',hrun,ML,Ns⟩:=key
 have hlt:=kv hg
 refine Ih hd (w':={w with heap:=w.heap.setIfInBounds g (.map qz clock')}) ?_ (h _ ?_)
 ·intro n c he
  unfold execOp
  rcases hop with hop|hop<;>simp only[hop,he.eval hx,he.eval hy,he.eval hz,hrun,Sem.run_bind,Result.andThen_ok,Sem.run_pure]
 ·refine S.step hi hH (Li w g _) (fun b _ hb=>?_) ⟨qz,clock',?_,ML,Ns⟩ (fun b hb=>⟨.inl hb,?_⟩)
  ·have hne:b≠g:=by simpa[Rs.mp]using hb
   show(w.heap.setIfInBounds g _)[b]? =w.heap[b]?
   rw[Array.getElem?_setIfInBounds_ne (Ne.symm hne)]
  ·show(w.heap.setIfInBounds g _)[g]? =_
   simp[hlt]
  ·simp[Rs.mp]at hb
   subst hb
   show _<(w.heap.setIfInBounds _ _).size
   simpa using hlt
end
end Go.Proofs.YtcohmplpgcddiaaGreatDoor
namespace Go.Proofs.YtcohmplpgcddiaaGreatDoor
open Go.ChangeShapes Go.WideShapes Go.ChangeAt Go.RowKit
def Rs.cV(H:List Rs):Rs:=
 ⟨H.flatMap (·.bl),fun h=>(∀r∈H,r.ok h)/\∀(i j:Nat) r s,i≠j->H[i]? =some r->H[j]? =some s->∀b∈r.bl,b∉s.bl,fun h h' hb hk=>
  ⟨fun r hr=>r.loc h h' (fun b hbr=>hb b (List.mem_flatMap.2 ⟨r,hr,hbr⟩)) (hk.1 r hr),hk.2⟩⟩
section
variable {w w' : World} {M M' : Hp} {X : Fr} {H H' : List Rs} {r r' : Rs} {i : Nat}
theorem SH.cV(S:SH w M X H):SH w M X [Rs.cV H]:=by
 refine⟨S.m,S.x,S.mx,fun s hs=>?_,fun s hs b hb=>?_,fun i j r s hij hi hj b hb=>?_,S.like⟩
 ·rw[List.mem_singleton]at hs;subst hs;exact⟨S.ok,S.ap⟩
 ·rw[List.mem_singleton]at hs;subst hs
  obtain⟨r,hr,hbr⟩:=List.mem_flatMap.1 hb
  exact S.bl r hr b hbr
 ·have h1:=(List.getElem?_eq_some_iff.1 hi).1
  have h2:=(List.getElem?_eq_some_iff.1 hj).1
  simp at h1 h2;omega
theorem SH.se(S:SH w M X [Rs.cV H]):SH w M X H:=by
 obtain⟨h1,h2⟩:=S.ok (Rs.cV H) (by simp)
 exact⟨S.m,S.x,S.mx,h1,fun r hr b hb=>S.bl (Rs.cV H) (by simp) b (List.mem_flatMap.2 ⟨r,hr,hb⟩),h2,S.like⟩
end
def Rs.lr(l D:Nat)(rc:Loop):Rs:=
 ⟨[l,D],fun h=>h l=some (.loop rc)/\h D=some (.deferred (some [])),fun h h' hb hk=>⟨by rw[hb l (by simp)];exact hk.1,by rw[hb D (by simp)];exact hk.2⟩⟩
namespace InF
structure Ctx where
 Q:Exit->Act->World->Prop
 r:Option Nat
def Ctx.F(C:Ctx):Fence:=match C.r with
 |none=>Fence.wide
 |some l=>Fence.wide.inRound l
theorem Ctx.xM(C:Ctx)(f:FuncId):C.F.fn f:=by
 unfold Ctx.F;split<;>trivial
theorem Ctx.aeq(C:Ctx):C.F.depth=none:=by
 unfold Ctx.F;split<;>rfl
theorem Ctx.zg(C:Ctx){p:Prop}:C.F.depth.isSome=true->p:=by rw[C.aeq];intro h;cases h
theorem I6(C:Ctx){m:Nat}{P:Program}{f:FuncId}{args:Array Value}{w:World}{R:Ending->World->Prop}(h:Calls P f args w R):CallsIn C.F m P f args w R:=by
 unfold Ctx.F
 split
 ·exact callsIn_wide.2 h
 ·exact(callsIn_wide.2 h).inRound _
theorem Np(C:Ctx){m:Nat}{P:Program}{row:String}{args:Array Value}{w:World}{R:Value->World->Prop}(h:Rows P row args w R):RowsIn C.F m P row args w R:=by
 unfold Ctx.F
 split
 ·exact fun c cs _=>let⟨v,w',r,s⟩:=h c cs;⟨v,w',r,stepsIn_wide.2 s⟩
 ·exact fun c cs _=>let⟨v,w',r,s⟩:=h c cs;⟨v,w',r,stepsIn_wide.2 s⟩
theorem adA(C:Ctx){P:Program}{o:Oper}{a:Act}{w:World}{next:Act->World->Prop}{Q:Exit->Act->World->Prop}(hnd:∀c,o.op≠.defer c)(h:o.wp P a w next Q):o.wpIn C.F 0 P a w next Q:=by
 refine⟨fun f _=>C.xM f,?_⟩
 rw[Oper.semAt_eq _ _ _ hnd]
 unfold Oper.wp at h
 generalize (execOp a.eval o).run P w=r at h
 cases r with
 |ok nx w'=>
  cases nx with
  |value v=>exact h
  |skip=>exact h
  |defer d=>exact h
  |enter f args=>exact⟨C.zg,I6 C h⟩
  |row row args=>exact⟨C.zg,Np C h⟩
  |_=>exact h.elim
 |halt x w'=>
  cases x with
  |panic v=>exact h
  |_=>exact h.elim
def post(P:Program)(C:Ctx):List K->Exit->Act->World->Prop
 |[]=>C.Q
 |.thn c::s=>Exit.then (c.wpIn C.F 0 P (post P C s)) (post P C s)
 |.blk id::s=>Exit.inBlock id (post P C s)
 |.lp I::s=>Exit.then I (post P C s)
 |.jmp _ _::s=>post P C s
def WS(P:Program)(n:Nat)(C:Ctx)(c:Code)(s:List K)(L:List (Nat×Value))(w:World):Prop:=∀a,Env n L a->c.wpIn C.F 0 P (post P C s) a w
def NM(P:Program)(n:Nat)(C:Ctx)(s:List K)(L:List (Nat×Value))(w:World):Prop:=∀a,Env n L a->post P C s .normal a w
def WL(P:Program)(n:Nat)(C:Ctx)(c:Code)(k:Nat)(s:List K)(L:List (Nat×Value))(w:World):Prop:=∀a,Env n L a->wpListIn C.F 0 P (rg c) (post P C s) ((rg c).toList.drop k) a w
section
variable {P : Program} {n : Nat} {C : Ctx} {c : Code} {s : List K} {L : List (Nat × Value)} {w : World}
theorem yx(L2:List (Nat×Value))(hs:Sub L L2)(h:WS P n C c s L2 w):WS P n C c s L w:=fun a ha=>h a (ha.sub hs)
theorem fy(L2:List (Nat×Value))(hs:Sub L L2)(h:NM P n C s L2 w):NM P n C s L w:=fun a ha=>h a (ha.sub hs)
theorem fe(a b:Code)(hk:kind c=1)(ha:cL c=a)(hb:cR c=b)(h:WS P n C a (.thn b::s) L w):WS P n C c s L w:=by
 subst ha;subst hb
 intro a ha
 rw[H9 hk]
 exact wpIn_seq (h a ha)
theorem xH(a:Code)(i:Nat)(hk:kind c=3)(ha:cL c=a)(hi:u7 c=i)(h:WS P n C a (.blk i::s) L w):WS P n C c s L w:=by
 subst ha;subst hi
 intro a ha
 rw[RY hk]
 exact wpIn_block (h a ha)
theorem uD(hk:kind c=9)(h:NM P n C s L w):WS P n C c s L w:=by
 intro a ha
 rw[SA hk]
 exact wpIn_skip (h a ha)
theorem bK(h:WS P n C c s L w):NM P n C (.thn c::s) L w:=fun a ha=>h a ha
theorem bE{id:Nat}(h:NM P n C s L w):NM P n C (.blk id::s) L w:=fun a ha=>h a ha
theorem br{I:Act->World->Prop}(h:∀a,Env n L a->I a w):NM P n C (.lp I::s) L w:=fun a ha=>h a ha
theorem uF{id:Nat}:∀{s s':List K},popTo id s=some s'->∀a w,post P C s' .normal a w->post P C s (.exit id) a w
 |[],s',h,a,w,hq=>by cases h
 |.thn c::s,s',h,a,w,hq=>uF (s:=s) h a w hq
 |.lp I::s,s',h,a,w,hq=>uF (s:=s) h a w hq
 |.jmp _ _::s,s',h,a,w,hq=>uF (s:=s) h a w hq
 |.blk i::s,s',h,a,w,hq=>by
  simp only[popTo]at h
  simp only[post,Exit.inBlock]
  by_cases hi:i=id
  ·subst hi
   simp only[Nat.beq_refl,Option.some.injEq]at h
   subst h
   rw[if_pos rfl]
   exact hq
  ·have h2:Nat.beq i id=false:=by
    cases hb:Nat.beq i id with
    |false=>rfl
    |true=>exact absurd (Nat.eq_of_beq_eq_true hb) hi
   simp only[h2]at h
   rw[if_neg (fun e=>hi e.symm)]
   exact uF (s:=s) h a w hq
theorem CD{s':List K}(hk:kind c=5)(hp:popTo (u7 c) s=some s')(h:NM P n C s' L w):WS P n C c s L w:=by
 intro a ha
 rw[SD hk]
 exact wpIn_exit (uF hp a w (h a ha))
theorem zk(x y:Code){b:Bool}(hk:kind c=2)(hb:oev L (cX c)=some (.bool b))(hx:cL c=x)(hy:cR c=y)(ht:b=true->WS P n C x s L w)(hf:b=false->WS P n C y s L w):WS P n C c s L w:=by
 subst hx;subst hy
 intro a ha
 rw[SE hk]
 exact wpIn_cond_split (ha.eval hb) (fun h=>ht h a ha) (fun h=>hf h a ha)
theorem K9(x:Code)(hk:kind c=2)(hb:oev L (cX c)=some (.bool true))(hx:cL c=x)(ht:WS P n C x s L w):WS P n C c s L w:=zk x (cR c) hk hb hx rfl (fun _=>ht) (fun e=>by cases e)
theorem DI(y:Code)(hk:kind c=2)(hb:oev L (cX c)=some (.bool false))(hy:cR c=y)(hf:WS P n C y s L w):WS P n C c s L w:=zk (cL c) y hk hb rfl hy (fun e=>by cases e) (fun _=>hf)
theorem Fb{a:Act}{c':Code}(ha:Env n L a)(hc:c'=c)(h:WS P n C c s L w):c'.wpIn C.F 0 P (post P C s) a w:=by subst hc;exact h a ha
theorem ck(I:Nat->Act->World->Prop)(hk:kind c=4)(h0:∀a,Env n L a->∃k,I k a w)
  (round:∀k a w,I k a w->(cL c).wpIn C.F 0 P (post P C (.lp (fun a' w'=>∃k',k'<k/\I k' a' w')::s)) a w):WS P n C c s L w:=by
 intro a ha
 rw[SC hk]
 have key:∀m k,k<m->∀a w,I k a w->Code.roundsIn C.F 0 P (cL c) (post P C s) m a w:=by
  intro m
  induction m with
  |zero=>intro k hk;omega
  |succ m ih=>
   intro k hk a w hi
   rw[roundsIn_succ]
   refine wpIn_mono (round k a w hi) (fun e a w q=>?_)
   cases e with
   |normal=>
    obtain⟨k',hlt,hi'⟩:=q
    exact ih k' (by omega) a w hi'
   |_=>exact q
 obtain⟨k0,h1⟩:=h0 a ha
 exact wpIn_loop_rounds (k0+1) (key (k0+1) k0 (by omega) a w h1)
theorem iZ(t:Nat){v:Value}(v':Value)(hl:lk L t=some v)(e:v=v')(h:WS P n C c s ((t,v')::L) w):WS P n C c s L w:=by
 subst e
 exact fun a ha=>h a ⟨ha.sz,ha.df,fun u x hx=>by
  rw[wE]at hx
  split at hx
  ·rename_i e;subst e;injection hx with hx;subst hx;exact ha.at_ _ _ hl
  ·exact ha.at_ _ _ hx⟩
theorem fQ(hk:kind c=7)(h:WL P n C c 0 s L w):WS P n C c s L w:=by
 intro a ha
 rw[K1 hk]
 exact wpIn_region_list (h a ha)
theorem fq{k:Nat}(hk:op c k=none)(h:NM P n C s L w):WL P n C c k s L w:=by
 intro a ha
 have:((rg c).toList.drop k)=[]:=by
  unfold op at hk
  rw[ig]at hk
  exact List.drop_eq_nil_of_le (by simpa using hk)
 rw[this]
 exact wpListIn_nil (h a ha)
def yZ(o:Oper):Bool:=match o.op with
 |.defer _=>false
 |_=>true
theorem Lg{o:Oper}(h:yZ o=true):∀c,o.op≠.defer c:=fun c e=>by unfold yZ at h;rw[e]at h;cases h
theorem bG{k k':Nat}{o:Oper}(ho:op c k=some o)(hk:k'=k.succ)(hg:o.guard=none)(h:WO P n o L w (fun L' w'=>WL P n C c k' s L' w'))(hnd:yZ o=true:=by rfl):WL P n C c k s L w:=by
 intro a ha
 rw[vH ho]
 subst hk
 refine wpListIn_plain hg fun K hK=>?_
 exact adA C (Lg hnd) (h a ha K _ fun L' a' w' he hw=>hK _ _ (hw a' he))
theorem abY{k k' d l:Nat}{o:Oper}{vs:List Value}{ca:Call}{fo:Operand}{xs:List Operand}(ho:op c k=some o)(hk:k'=k.succ)(hg:o.guard=none)(hd:o.dst=some d)(hop:o.op=.call ca)(eG:ca.callee=.value fo)(hfo:oev L fo=some (.func (.yield l) #[] #[]))
  (hxs:ca.args=xs.toArray)(hvs:oevs L xs=some vs)(hn:Nat.blt d n=true){R:Value->World->Prop}(hy:YieldAt C.F 0 P l vs.toArray w fun e w'=>∃v,e=.returned v/\R v w')(h:∀v w',R v w'->WL P n C c k' s ((d,v)::L) w'):WL P n C c k s L w:=by
 intro a ha
 rw[vH ho]
 subst hk
 refine wpListIn_plain hg fun K hK=>?_
 obtain⟨fn,tmps,assign,body,hy1,hy2⟩:=hy
 have hr:(execOp a.eval o).run P w=.ok (.round l fn tmps assign body) w:=by
  unfold execOp
  simp only[hop,resolve,eG,ha.eval hfo,hxs,List.map_toArray,ha.pE hvs,Deferred.ofValue,Sem.run_bind,Sem.run_pure,Result.andThen_ok,invoke,Array.empty_append]
  exact hy1
 refine⟨fun f _=>C.xM f,?_⟩
 rw[Oper.semAt_eq _ _ _ (fun c e=>by rw[e]at hop;cases hop),hr,Oper.uponIn_round,hd]
 refine⟨C.zg,hy2.mono ?_⟩
 rintro e w' ⟨v,rfl,hR⟩
 exact hK _ _ (h v w' hR _ (ha.put (by simpa using hn) v))
theorem l8{fn:Func}{R:Ending->World->Prop}(hC:C.Q=bodyPost P fn R){rs:List ResultVar}(vs:List Value)(hr:fn.results=rs.toArray)(h:wX P L w rs vs)(hR:R (.returned (tup vs)) w):NM P n C [] L w:=by
 intro a ha
 show C.Q .normal a w
 rw[hC]
 exact⟨ha.df,tup vs,BH ha hr h,hR⟩
theorem cw{f:FuncId}{fn:Func}{b:Code}{args:List Value}{w:World}{R:Ending->World->Prop}(hf:P.funcs[f]? =some fn)(hb:fn.body=some b){n:Nat}(hn:fn.ntmps=n)(hsz:Nat.ble args.length n=true)
  (h:∀C:Ctx,C.r=none->C.Q=bodyPost P fn R->WS P n C b [] (argL 0 args) w):CallsIn Fence.wide 0 P f args.toArray w R:=by
 have h1:=h ⟨bodyPost P fn R,none⟩ rfl rfl
 refine callsIn_of_wp hf hb trivial (h1 _ ⟨?_,rfl,fun t v hv=>?_⟩)
 ·simp[hn];have:args.length<=n:=by simpa using hsz
  omega
 ·have:=(Ey args 0 t v hv).2
  rw[Nat.sub_zero]at this
  have hlt:=(List.getElem?_eq_some_iff.1 this).1
  simp only[Array.getD_eq_getD_getElem?]
  rw[Array.getElem?_append_left (by simpa using hlt)]
  simp[this]
theorem RI{f:FuncId}{fn:Func}{b:Code}{args:List Value}{w:World}{R:Ending->World->Prop}(hf:P.funcs[f]? =some fn)(hb:fn.body=some b){n:Nat}(hn:fn.ntmps=n)(hsz:Nat.ble args.length n=true)
  (h:∀C:Ctx,C.r=none->C.Q=bodyPostM Fence.wide 0 P fn R->WS P n C b [] (argL 0 args) w):Calls P f args.toArray w R:=by
 have h1:=h ⟨bodyPostM Fence.wide 0 P fn R,none⟩ rfl rfl
 refine callsIn_wide.1 (callsIn_of_wp_marks hf hb trivial (h1 _ ⟨?_,rfl,fun t v hv=>?_⟩))
 ·simp[hn];have:args.length<=n:=by simpa using hsz
  omega
 ·have:=(Ey args 0 t v hv).2
  rw[Nat.sub_zero]at this
  have hlt:=(List.getElem?_eq_some_iff.1 this).1
  simp only[Array.getD_eq_getD_getElem?]
  rw[Array.getElem?_append_left (by simpa using hlt)]
  simp[this]
end
section
variable {P : Program} {n : Nat} {C : Ctx} {c : Code} {s : List K} {L : List (Nat × Value)} {w : World} {M : Hp} {X : Fr} {H : List Rs}
def Iter(P:Program)(f:FuncId)(lb:List Value)(enc:Nat->Value)(N:Nat)(M:Hp)(X:Fr):Prop:=
 ∀(l:Nat) (J:Nat->Hp->Rs->Prop) (w:World) (M1:Hp) (B:Rs),M.le M1->
  (∀k M' B' w',k<N->M1.le M'->SH w' M' X [B']->J k M' B'->YieldAt Fence.wide 0 P l #[enc k] w' fun e w''=>∃v,e=.returned v/\v=.bool true/\∃vh B'',M'.le vh/\SH w'' vh X [B'']/\J (k+1) vh B'')->
  SH w M1 X [B]->J 0 M1 B->CallsIn Fence.wide 0 P f ((Value.func (.yield l) #[] #[])::lb).toArray w fun e w'=>(∃v,e=.returned v)/\∃M' B',M1.le M'/\SH w' M' X [B']/\J N M' B'
theorem My{w:World}{l D:Nat}{rc GQ:Loop}{Hs:List Rs}(S:SH w M X (Rs.lr l D rc::Hs)):SH (w.putObj l (.loop GQ)) M X (Rs.lr l D GQ::Hs):=by
 obtain⟨h1,h2⟩:=S.ok (Rs.lr l D rc) (by simp)
 have hne:D≠l:=fun e=>by subst e;rw[h1]at h2;cases h2
 have hlt:=kv h1
 have hlt2:=kv h2
 refine S.step (i:=0) (r:=Rs.lr l D rc) rfl rfl ⟨rfl,rfl,rfl,by simp[World.putObj]⟩ (fun b _ hb=>?_) ⟨World.putObj_heap_same hlt,(World.putObj_heap_other hne).trans h2⟩ (fun b hb=>⟨.inl hb,?_⟩)
 ·exact World.putObj_heap_other (fun e=>hb (by rw[e];simp[Rs.lr]))
 ·simp only[Rs.lr,List.mem_cons,List.not_mem_nil,or_false]at hb
  rcases hb with rfl|rfl<;>simp[World.putObj,hlt,hlt2]
theorem abJ{a:Act}{p:Nat}{v:Value}(ha:Env n L a)(hp:p<n):Env n ((p,v)::L) {tmps:=a.tmps.setIfInBounds p v,defers:=[]}:=by
 have:=(ha.put hp v)
 exact⟨by simpa[Act.put]using this.sz,rfl,fun t u hu=>by have:=this.at_ t u hu;simpa[Act.put]using this⟩
theorem aaq{p:Nat}{g:Operand}{asg bd:Code}{f:FuncId}{lb:List Value}{enc:Nat->Value}{N:Nat}(hr:C.r=none)(hc:c=.rangeFunc g #[p] asg bd)(hp':Nat.blt p n=true)(hg:oev L g=some (.func (.func f) #[] lb.toArray))(hen:∀args w,(callFunc f args).run P w=.ok (.enter f args) w)
  (S:SH w M X H)(I:Nat->Hp->List Rs->Prop)(I1:Nat->Act->Hp->List Rs->Prop)(h0:I 0 M H)(hit:Iter P f lb enc N M X)
  (hassign:∀(k:Nat) (M':Hp) (H':List Rs) (w':World) (C':Ctx) (R0:Rs),k<N->M.le M'->SH w' M' X (R0::H')->I k M' H'->WS P n C' asg [.lp (fun a w''=>∃vh Hz,M'.le vh/\SH w'' vh X (R0::Hz)/\I1 k a vh Hz)] ((p,enc k)::L) w')
  (hbody:∀(k:Nat) (M':Hp) (H':List Rs) (w':World) (C':Ctx) (R0:Rs) (a:Act),k<N->M.le M'->SH w' M' X (R0::H')->I1 k a M' H'->bd.wpIn C'.F 0 P (post P C' [.lp (fun _ w''=>∃vh Hz,M'.le vh/\SH w'' vh X (R0::Hz)/\I (k+1) vh Hz)]) a w')
  (hdone:∀(a:Act) (M':Hp) (H':List Rs) (w':World) (D l:Nat) (rc:Loop),Env n L a->M.le M'->SH w' M' X (Rs.lr l D rc::H')->I N M' H'->post P C s .normal {a with defers:=[{target:=.collected D,args:=#[]}]} w'):WS P n C c s L w:=by
 have hF:C.F=Fence.wide:=by unfold Ctx.F;rw[hr]
 intro a ha
 subst hc
 rw[hF]
 refine wpIn_rangeFunc ?_
 intro fn _
 rw[show Fence.wide.round=none from rfl]
 obtain⟨rec,hrec⟩:∃rec:LoopState->Loop,rec=fun st=>{state:=st,pending:=none,fn,tmps:=a.tmps,params:=#[p],assign:=asg,body:=bd,defers:=w.heap.size}:=⟨_,rfl⟩
 obtain⟨W1,hW1⟩:∃W1,(w.alloc (.deferred (some []))).alloc (.loop (rec .ready))=W1:=⟨_,rfl⟩
 have hL1:W1.heap[w.heap.size+1]? =some (.loop (rec .ready)):=by
  rw[<-hW1];have:=World.alloc_heap_new (w.alloc (.deferred (some []))) (.loop (rec .ready));rwa [World.size_alloc]at this
 have hK1:W1.heap[w.heap.size]? =some (.deferred (some [])):=by
  rw[<-hW1];exact(Below.heap_alloc _ _ _ (by simp)).trans (World.alloc_heap_new w _)
 have hkeep:∀b,b<w.heap.size->hp W1 b=hp w b:=fun b hb=>by
  rw[<-hW1]
  exact(BA (w.alloc (.deferred (some []))) _ b (by rw[wC];omega)).trans (BA w _ b hb)
 have S1:SH W1 M X (Rs.lr (w.heap.size+1) w.heap.size (rec .ready)::H):=by
  have hl:ku w W1:=by rw[<-hW1];exact(BB w _).trans (BB _ _)
  refine S.cons hl hkeep ⟨hL1,hK1⟩ (fun b hb=>?_)
  have hsz:W1.heap.size=w.heap.size+2:=by rw[<-hW1,wC,wC]
  simp only[Rs.lr,List.mem_cons,List.not_mem_nil,or_false]at hb
  omega
 have hdf:a.defers=[]:=ha.df
 refine⟨w.heap.size+1,[{target:=.collected w.heap.size,args:=#[]}],W1,{target:=.fn (.func f) lb.toArray,args:=#[.func (.yield (w.heap.size+1)) #[] #[]]},W1,f,
  #[.func (.yield (w.heap.size+1)) #[] #[]]++lb.toArray,W1,?_,?_,fun _ _=>trivial,?_,fun h=>(by cases h),?_⟩
 ·rw[<-hW1,hrec];exact run_enterLoop_outer _ _ _ _ _
 ·simp only[resolve,ha.eval hg]
  simp[go_sem]
 ·simp[invoke,go_sem,hen]
 ·rw[show(#[.func (.yield (w.heap.size+1)) #[] #[]]++lb.toArray:Array Value)=((Value.func (.yield (w.heap.size+1)) #[] #[])::lb).toArray from by simp]
  refine(hit (w.heap.size+1) (fun k M' B=>∃H',B=Rs.cV (Rs.lr (w.heap.size+1) w.heap.size (rec .ready)::H')/\I k M' H') W1 M _ (Hp.le_refl _) ?_ S1.cV ⟨H,rfl,h0⟩).mono ?_
  ·rintro k M' B' w' hk hle SB ⟨H',rfl,hI⟩
   have S':=SB.se
   obtain⟨hl,hD⟩:=S'.ok (Rs.lr (w.heap.size+1) w.heap.size (rec .ready)) (by simp)
   have hy:=run_yield (P:=P) (args:=#[enc k]) hl (by rw[hrec];rfl)
   rw[hrec]at hy
   refine⟨fn,_,asg,bd,hy,roundIn_of_wpIn trivial ?_⟩
   have hC':(Ctx.mk (fun _ _ _=>False) (some (w.heap.size+1))).F=Fence.wide.inRound (w.heap.size+1):=rfl
   have e1:((#[p]:Array Tmp).zip #[enc k]).foldl (fun tmps (t,a)=>tmps.setIfInBounds t a) a.tmps=a.tmps.setIfInBounds p (enc k):=by simp
   rw[<-hC']
   have hA:=hassign k M' H' w' (Ctx.mk (fun _ _ _=>False) (some (w.heap.size+1))) (Rs.lr (w.heap.size+1) w.heap.size (rec .ready)) hk hle S' hI _ (abJ ha (by simpa using hp'))
   rw[e1]
   refine wpIn_mono hA ?_
   rintro e a2 w2 hq
   cases e with
   |normal=>
    obtain⟨M2,H2,hle2,S2,Hf⟩:=hq
    obtain⟨hl2,_⟩:=S2.ok (Rs.lr (w.heap.size+1) w.heap.size (rec .ready)) (by simp)
    refine⟨_,run_beginRound hl2 (by rw[hrec]),?_⟩
    have S3:=My (GQ:={rec .ready with state:=.busy}) S2
    refine wpIn_mono (hbody k M2 H2 _ (Ctx.mk (fun _ _ _=>False) (some (w.heap.size+1))) _ a2 hk (hle.trans hle2) S3 Hf) ?_
    rintro e a3 w3 Cg
    cases e with
    |normal=>
     obtain⟨M4,H4,b7,S4,hI4⟩:=Cg
     obtain⟨hl4,_⟩:=S4.ok (Rs.lr (w.heap.size+1) w.heap.size {rec .ready with state:=.busy}) (by simp)
     have he:=run_endRound (P:=P) none hl4
     have S5:=My (GQ:=rec .ready) S4
     refine⟨_,_,he,_,rfl,rfl,M4,Rs.cV (Rs.lr (w.heap.size+1) w.heap.size (rec .ready)::H4),hle2.trans b7,?_,H4,rfl,hI4⟩
     have e2:({({rec .ready with state:=.busy}:Loop)with state:=(if(none:Option Code).isNone=true then LoopState.ready else LoopState.done),pending:=none}:Loop)=rec .ready:=by rw[hrec];rfl
     rw[e2]
     exact S5.cV
    |_=>exact Cg.elim
   |_=>exact hq.elim
  ·rintro e w2 ⟨⟨v,rfl⟩,M',B',hle,SB,H',rfl,hI⟩
   have S':=SB.se
   obtain⟨hl,hD⟩:=S'.ok (Rs.lr (w.heap.size+1) w.heap.size (rec .ready)) (by simp)
   have he:=run_endLoop (P:=P) hl (by rw[hrec];simp)
   refine⟨none,w2.putObj (w.heap.size+1) (.loop {rec .ready with state:=.exhausted}),by rw[he,hrec],?_⟩
   have:=hdone a M' H' _ w.heap.size (w.heap.size+1) _ ha hle (My (GQ:={rec .ready with state:=.exhausted}) S') hI
   rw[hdf]
   exact this
theorem adP{l D:Nat}{rc:Loop}{Hs:List Rs}(S:SH w M X (Rs.lr l D rc::Hs)):SH (w.putObj D (.deferred none)) M X Hs:=by
 obtain⟨h1,h2⟩:=S.ok (Rs.lr l D rc) (by simp)
 have S2:SH (w.putObj D (.deferred none)) M X (Rs.emp::Hs):=S.step (i:=0) (r:=Rs.lr l D rc) rfl rfl ⟨rfl,rfl,rfl,by simp[World.putObj]⟩ (fun b _ hb=>World.putObj_heap_other (fun e=>hb (by rw[e];simp[Rs.lr]))) trivial (fun b hb=>by cases hb)
 exact S2.suf (N:=[Rs.emp])
theorem ac7{fn:Func}{R:Ending->World->Prop}(hC:C.Q=bodyPostM Fence.wide 0 P fn R){i:Nat}{o1 o2:Oper}(hc:c=.seq (.region i #[o1,o2] false) .ret){x:Operand}{T d1 d2 l D:Nat}{p:Addr}{v:Value}{dd:TypeDesc}{rc:Loop}{Hs:List Rs}{a:Act}
  (h1:o1.op=.load T x)(g1:o1.guard=none)(e1:o1.dst=some d1)(h2:o2.op=.assign (.tmp d1))(g2:o2.guard=none)(e2:o2.dst=some d2)(ha:Env n L a)(hx:oev L x=some (.pointer (some p)))(hu:P.underlying T=some dd)(hd:ud dd=true)(kG:Nat.blt d1 n=true)(mv:Nat.blt d2 n=true)
  (hres:fn.results=#[.tmp d2])(S:SH w M X (Rs.lr l D rc::Hs))(hcell:w.cell? p=some v)(hR:∀w',SH w' M X Hs->R (.returned v) w'):c.wpIn C.F 0 P C.Q {a with defers:=[{target:=.collected D,args:=#[]}]} w:=by
 subst hc
 obtain⟨_,hD⟩:=S.ok (Rs.lr l D rc) (by simp)
 have r1:(execOp a.eval o1).run P w=.ok (.value v) w:=sV h1 hx hu hd hcell n a ha
 have ha1:=ha.put (d:=d1) (by simpa using kG) v
 have r2:(execOp (a.put (some d1) v).eval o2).run P w=.ok (.value v) w:=run_assign h2 (by simp[oev,lk]) n _ ha1
 have ha2:=ha1.put (d:=d2) (by simpa using mv) v
 refine wpIn_seq ?_
 refine wpIn_region_list ?_
 show wpListIn C.F 0 P #[o1,o2] _ [o1,o2] _ w
 refine wpListIn_plain g1 fun K hK=>?_
 refine⟨fun f _=>C.xM f,?_⟩
 rw[Oper.semAt_eq _ _ _ (fun c e=>by rw[e]at h1;cases h1),show(execOp ({a with defers:=[{target:=.collected D,args:=#[]}]}:Act).eval o1).run P w=.ok (.value v) w from r1,Oper.uponIn_value,e1]
 refine hK _ _ ?_
 refine wpListIn_plain g2 fun K2 hK2=>?_
 refine⟨fun f _=>C.xM f,?_⟩
 rw[Oper.semAt_eq _ _ _ (fun c e=>by rw[e]at h2;cases h2),show(execOp (({a with defers:=[{target:=.collected D,args:=#[]}]}:Act).put (some d1) v).eval o2).run P w=.ok (.value v) w from r2,Oper.uponIn_value,e2]
 refine hK2 _ _ ?_
 refine wpListIn_nil ?_
 refine wpIn_ret ?_
 rw[hC]
 refine⟨by simp,.inl ⟨D,_,rfl,run_takeDeferred hD,?_⟩⟩
 refine⟨v,?_,hR _ (adP S)⟩
 have hz:=ha.sz
 have hd2:d2<n:=by simpa using mv
 simp only[Act.put]
 simp[results,hres]
 intro h
 omega
end
end InF
end Go.Proofs.YtcohmplpgcddiaaGreatDoor
namespace Go.Proofs.YtcohmplpgcddiaaGreatDoor
open Go.ChangeShapes Go.WideShapes Go.ChangeAt Go.RowKit
theorem gp:(Tryz.prog.info? 3).map (·.size)=some 1:=by kernel_rfl
theorem aY:Nat.blt 0 (Tryz.prog.cellsOf 3)=true:=by kernel_rfl
theorem aX:∃i,Tryz.prog.info? 3=some i:=Option.isSome_iff_exists.1 (by kernel_rfl)
theorem BK:(Tryz.prog.info? 3).map (·.zero)=some (some (.int .i64 0)):=by kernel_rfl
theorem BR:(Tryz.prog.info? 4).map (·.size)=some 1:=by kernel_rfl
theorem lM:Nat.blt 0 (Tryz.prog.cellsOf 4)=true:=by kernel_rfl
theorem lJ:∃i,Tryz.prog.info? 4=some i:=Option.isSome_iff_exists.1 (by kernel_rfl)
theorem Ke:(Tryz.prog.info? 4).map (·.zero)=some (some (.bool false)):=by kernel_rfl
theorem Dc:(Tryz.prog.info? 22).map (·.size)=some 1:=by kernel_rfl
theorem dN:Nat.blt 0 (Tryz.prog.cellsOf 22)=true:=by kernel_rfl
theorem dM:∃i,Tryz.prog.info? 22=some i:=Option.isSome_iff_exists.1 (by kernel_rfl)
theorem aN:(Tryz.prog.info? 24).map (·.size)=some 2:=by kernel_rfl
theorem jZ:Nat.blt 0 (Tryz.prog.cellsOf 24)=true:=by kernel_rfl
theorem jX:∃i,Tryz.prog.info? 24=some i:=Option.isSome_iff_exists.1 (by kernel_rfl)
theorem jo:(Tryz.prog.info? 24).map (·.zero)=some (some (.agg [.slice none 0 0,.int .i64 0].toArray)):=by kernel_rfl
theorem iC:uy Tryz.prog 24 [(0,1),(1,1)] [.slice none 0 0,.int .i64 0]:=⟨_,aM,by kernel_rfl,⟨⟨rfl,by kernel_rfl⟩,⟨rfl,by kernel_rfl⟩,trivial⟩⟩
theorem YF:Nat.blt 0 (Tryz.prog.cellsOf 25)=true:=by kernel_rfl
theorem Xn:∃i,Tryz.prog.info? 25=some i:=Option.isSome_iff_exists.1 (by kernel_rfl)
theorem Om:(Tryz.prog.info? 26).map (·.size)=some 1:=by kernel_rfl
theorem ako:Nat.blt 0 (Tryz.prog.cellsOf 26)=true:=by kernel_rfl
theorem aiq:∃i,Tryz.prog.info? 26=some i:=Option.isSome_iff_exists.1 (by kernel_rfl)
theorem ahX:(Tryz.prog.info? 26).map (·.zero)=some (some (.int .i64 0)):=by kernel_rfl
theorem gD:(Tryz.prog.info? 33).map (·.size)=some 2:=by kernel_rfl
theorem YE:Nat.blt 0 (Tryz.prog.cellsOf 33)=true:=by kernel_rfl
theorem Xm:∃i,Tryz.prog.info? 33=some i:=Option.isSome_iff_exists.1 (by kernel_rfl)
theorem ra:(Tryz.prog.info? 33).map (·.zero)=some (some (.agg [.int .i64 0,.bool false].toArray)):=by kernel_rfl
theorem FH:uy Tryz.prog 33 [(0,1),(1,1)] [.int .i64 0,.bool false]:=⟨_,eA,by kernel_rfl,⟨⟨rfl,by kernel_rfl⟩,⟨rfl,by kernel_rfl⟩,trivial⟩⟩
theorem sF:(Tryz.prog.info? 35).map (·.size)=some 8:=by kernel_rfl
theorem N7:(Tryz.prog.info? 35).map (·.zero)=some (some (.agg [.int .i64 0,.int .i64 0,.int .i64 0,.int .i64 0,.bool false,.int .i64 0,.bool false,.bool false].toArray)):=by kernel_rfl
theorem Dd:uy Tryz.prog 35 [(0,1),(1,1),(2,1),(3,2),(5,2),(7,1)] [.int .i64 0,.int .i64 0,.int .i64 0,.int .i64 0,.bool false,.int .i64 0,.bool false,.bool false]:=⟨_,eT,by kernel_rfl,⟨⟨rfl,by kernel_rfl⟩,⟨rfl,by kernel_rfl⟩,⟨rfl,by kernel_rfl⟩,⟨rfl,by kernel_rfl⟩,⟨rfl,by kernel_rfl⟩,⟨rfl,by kernel_rfl⟩,trivial⟩⟩
theorem Ol:(Tryz.prog.info? 44).map (·.size)=some 3:=by kernel_rfl
theorem ahW:(Tryz.prog.info? 44).map (·.zero)=some (some (.agg [.slice none 0 0,.int .i64 0,.slice none 0 0].toArray)):=by kernel_rfl
theorem Oo:uy Tryz.prog 44 [(0,2),(2,1)] [.slice none 0 0,.int .i64 0,.slice none 0 0]:=⟨_,uh,by kernel_rfl,⟨⟨rfl,by kernel_rfl⟩,⟨rfl,by kernel_rfl⟩,trivial⟩⟩
theorem mW:Nat.blt 0 (Tryz.prog.cellsOf 60)=true:=by kernel_rfl
theorem mN:∃i,Tryz.prog.info? 60=some i:=Option.isSome_iff_exists.1 (by kernel_rfl)
theorem aii:(Tryz.prog.info? 61).map (·.size)=some 1:=by kernel_rfl
theorem Pv:Nat.blt 0 (Tryz.prog.cellsOf 61)=true:=by kernel_rfl
theorem Ou:∃i,Tryz.prog.info? 61=some i:=Option.isSome_iff_exists.1 (by kernel_rfl)
theorem ahV:(Tryz.prog.info? 61).map (·.zero)=some (some (.slice none 0 0)):=by kernel_rfl
theorem aij:uy Tryz.prog 63 [(0,1),(1,1)] [.pointer none,.slice none 0 0]:=⟨_,kX,by kernel_rfl,⟨⟨rfl,by kernel_rfl⟩,⟨rfl,by kernel_rfl⟩,trivial⟩⟩
theorem zb:Nat.blt 0 (Tryz.prog.cellsOf 64)=true:=by kernel_rfl
theorem yY:∃i,Tryz.prog.info? 64=some i:=Option.isSome_iff_exists.1 (by kernel_rfl)
theorem fN:(Tryz.prog.info? 68).map (·.size)=some 5:=by kernel_rfl
theorem vt:(Tryz.prog.info? 68).map (·.zero)=some (some (.agg [.int .i64 0,.int .i64 0,.int .i64 0,.int .i64 0,.bool false].toArray)):=by kernel_rfl
theorem JH:uy Tryz.prog 68 [(0,1),(1,1),(2,1),(3,1),(4,1)] [.int .i64 0,.int .i64 0,.int .i64 0,.int .i64 0,.bool false]:=⟨_,b6,by kernel_rfl,⟨⟨rfl,by kernel_rfl⟩,⟨rfl,by kernel_rfl⟩,⟨rfl,by kernel_rfl⟩,⟨rfl,by kernel_rfl⟩,⟨rfl,by kernel_rfl⟩,trivial⟩⟩
theorem iM:(Tryz.prog.info? 80).map (·.size)=some 2:=by kernel_rfl
theorem pF:(Tryz.prog.info? 80).map (·.zero)=some (some (.agg [.int .i64 0,.int .i64 0].toArray)):=by kernel_rfl
theorem rq:uy Tryz.prog 80 [(0,1),(1,1)] [.int .i64 0,.int .i64 0]:=⟨_,dR,by kernel_rfl,⟨⟨rfl,by kernel_rfl⟩,⟨rfl,by kernel_rfl⟩,trivial⟩⟩
theorem vz:(Tryz.prog.info? 83).map (·.size)=some 1:=by kernel_rfl
theorem jP:Nat.blt 0 (Tryz.prog.cellsOf 83)=true:=by kernel_rfl
theorem jO:∃i,Tryz.prog.info? 83=some i:=Option.isSome_iff_exists.1 (by kernel_rfl)
theorem Xc:(Tryz.prog.info? 83).map (·.zero)=some (some (.slice none 0 0)):=by kernel_rfl
theorem agq:(Tryz.prog.info? 101).map (·.size)=some 1:=by kernel_rfl
theorem afY:(Tryz.prog.info? 101).map (·.zero)=some (some (.agg [.int .i64 0].toArray)):=by kernel_rfl
theorem ags:uy Tryz.prog 101 [(0,1)] [.int .i64 0]:=⟨_,Jk,by kernel_rfl,⟨⟨rfl,by kernel_rfl⟩,trivial⟩⟩
theorem agp:(Tryz.prog.info? 103).map (·.size)=some 1:=by kernel_rfl
theorem afX:(Tryz.prog.info? 103).map (·.zero)=some (some (.map none)):=by kernel_rfl
theorem gX:(Tryz.prog.info? 106).map (·.size)=some 2:=by kernel_rfl
theorem qX:(Tryz.prog.info? 106).map (·.zero)=some (some (.agg [.int .i64 0,.int .i64 0].toArray)):=by kernel_rfl
theorem Fi:uy Tryz.prog 106 [(0,1),(1,1)] [.int .i64 0,.int .i64 0]:=⟨_,dX,by kernel_rfl,⟨⟨rfl,by kernel_rfl⟩,⟨rfl,by kernel_rfl⟩,trivial⟩⟩
theorem nU:(Tryz.prog.info? 110).map (·.size)=some 2:=by kernel_rfl
theorem Fa:(Tryz.prog.info? 110).map (·.zero)=some (some (.agg [.slice none 0 0,.slice none 0 0].toArray)):=by kernel_rfl
theorem agr:uy Tryz.prog 110 [(0,1),(1,1)] [.slice none 0 0,.slice none 0 0]:=⟨_,gT,by kernel_rfl,⟨⟨rfl,by kernel_rfl⟩,⟨rfl,by kernel_rfl⟩,trivial⟩⟩
theorem afW:(Tryz.prog.info? 118).map (·.zero)=some (some (.agg [.int .i64 0,.int .i64 0,.int .i64 0,.int .i64 0].toArray)):=by kernel_rfl
theorem afV:(Tryz.prog.info? 139).map (·.zero)=some (some (.agg [.int .i64 0,.int .i64 0,.int .i64 0].toArray)):=by kernel_rfl
theorem ago:(Tryz.prog.info? 140).map (·.size)=some 1:=by kernel_rfl
theorem afU:(Tryz.prog.info? 140).map (·.zero)=some (some (.map none)):=by kernel_rfl
theorem afT:(Tryz.prog.info? 156).map (·.zero)=some (some (.agg [.bool false,.bool false].toArray)):=by kernel_rfl
theorem wM:(Tryz.prog.info? 160).map (·.size)=some 2:=by kernel_rfl
theorem CP:(Tryz.prog.info? 160).map (·.zero)=some (some (.agg [.int .i64 0,.int .i64 0].toArray)):=by kernel_rfl
theorem yI:(Tryz.prog.info? 190).map (·.size)=some 1:=by kernel_rfl
theorem Jh:(Tryz.prog.info? 191).map (·.zero)=some (some (.agg [.pointer none,.pointer none,.pointer none,.pointer none].toArray)):=by kernel_rfl
theorem V9:(Tryz.prog.info? 209).map (·.size)=some 4:=by kernel_rfl
theorem VS:(Tryz.prog.info? 209).map (·.zero)=some (some (.agg [.int .i64 0,.int .i64 0,.int .i64 0,.int .i64 0].toArray)):=by kernel_rfl
theorem cf4:∀args w,(callFunc 4 args).run Tryz.prog w=.ok (.enter 4 args) w:=cu (c:=Tryz.f4.body.getD .skip) Tryz.func4 (by decide) rfl
theorem QD:∀args w,(callFunc 5 args).run Tryz.prog w=.ok (.enter 5 args) w:=cu (c:=Tryz.f5.body.getD .skip) Tryz.func5 (by decide) rfl
theorem cf6:∀args w,(callFunc 6 args).run Tryz.prog w=.ok (.enter 6 args) w:=cu (c:=Tryz.f6.body.getD .skip) Tryz.func6 (by decide) rfl
theorem cf7:∀args w,(callFunc 7 args).run Tryz.prog w=.ok (.enter 7 args) w:=cu (c:=Tryz.f7.body.getD .skip) Tryz.func7 (by decide) rfl
theorem cf8:∀args w,(callFunc 8 args).run Tryz.prog w=.ok (.enter 8 args) w:=cu (c:=Tryz.f8.body.getD .skip) Tryz.func8 (by decide) rfl
theorem cf9:∀args w,(callFunc 9 args).run Tryz.prog w=.ok (.enter 9 args) w:=cu (c:=Tryz.f9.body.getD .skip) Tryz.func9 (by decide) rfl
theorem akn:∀args w,(callFunc 10 args).run Tryz.prog w=.ok (.enter 10 args) w:=cu (c:=Tryz.f10.body.getD .skip) Tryz.func10 (by decide) rfl
theorem akm:∀args w,(callFunc 11 args).run Tryz.prog w=.ok (.enter 11 args) w:=cu (c:=Tryz.f11.body.getD .skip) Tryz.func11 (by decide) rfl
theorem akl:∀args w,(callFunc 12 args).run Tryz.prog w=.ok (.enter 12 args) w:=cu (c:=Tryz.f12.body.getD .skip) Tryz.func12 (by decide) rfl
theorem akk:∀args w,(callFunc 13 args).run Tryz.prog w=.ok (.enter 13 args) w:=cu (c:=Tryz.f13.body.getD .skip) Tryz.func13 (by decide) rfl
theorem akj:∀args w,(callFunc 14 args).run Tryz.prog w=.ok (.enter 14 args) w:=cu (c:=Tryz.f14.body.getD .skip) Tryz.func14 (by decide) rfl
theorem Pt:∀args w,(callFunc 15 args).run Tryz.prog w=.ok (.enter 15 args) w:=cu (c:=Tryz.f15.body.getD .skip) Tryz.func15 (by decide) rfl
theorem Pr:∀args w,(callFunc 16 args).run Tryz.prog w=.ok (.enter 16 args) w:=cu (c:=Tryz.f16.body.getD .skip) Tryz.func16 (by decide) rfl
theorem YD:∀args w,(callFunc 17 args).run Tryz.prog w=.ok (.enter 17 args) w:=cu (c:=Tryz.f17.body.getD .skip) Tryz.func17 (by decide) rfl
theorem YC:∀args w,(callFunc 18 args).run Tryz.prog w=.ok (.enter 18 args) w:=cu (c:=Tryz.f18.body.getD .skip) Tryz.func18 (by decide) rfl
theorem aki:∀args w,(callFunc 19 args).run Tryz.prog w=.ok (.enter 19 args) w:=cu (c:=Tryz.f19.body.getD .skip) Tryz.func19 (by decide) rfl
theorem J1:∀args w,(callFunc 20 args).run Tryz.prog w=.ok (.enter 20 args) w:=cu (c:=Tryz.f20.body.getD .skip) Tryz.func20 (by decide) rfl
theorem YB:∀args w,(callFunc 21 args).run Tryz.prog w=.ok (.enter 21 args) w:=cu (c:=Tryz.f21.body.getD .skip) Tryz.func21 (by decide) rfl
theorem YA:∀args w,(callFunc 22 args).run Tryz.prog w=.ok (.enter 22 args) w:=cu (c:=Tryz.f22.body.getD .skip) Tryz.func22 (by decide) rfl
theorem Gi:∀args w,(callFunc 23 args).run Tryz.prog w=.ok (.enter 23 args) w:=cu (c:=Tryz.f23.body.getD .skip) Tryz.func23 (by decide) rfl
theorem Yz:∀args w,(callFunc 24 args).run Tryz.prog w=.ok (.enter 24 args) w:=cu (c:=Tryz.f24.body.getD .skip) Tryz.func24 (by decide) rfl
theorem akh:∀args w,(callFunc 25 args).run Tryz.prog w=.ok (.enter 25 args) w:=cu (c:=Tryz.f25.body.getD .skip) Tryz.func25 (by decide) rfl
theorem akg:∀args w,(callFunc 26 args).run Tryz.prog w=.ok (.enter 26 args) w:=cu (c:=Tryz.f26.body.getD .skip) Tryz.func26 (by decide) rfl
theorem Yy:∀args w,(callFunc 27 args).run Tryz.prog w=.ok (.enter 27 args) w:=cu (c:=Tryz.f27.body.getD .skip) Tryz.func27 (by decide) rfl
theorem Dt:∀args w,(callFunc 28 args).run Tryz.prog w=.ok (.enter 28 args) w:=cu (c:=Tryz.f28.body.getD .skip) Tryz.func28 (by decide) rfl
theorem Pq:∀args w,(callFunc 29 args).run Tryz.prog w=.ok (.enter 29 args) w:=cu (c:=Tryz.f29.body.getD .skip) Tryz.func29 (by decide) rfl
theorem akf:∀args w,(callFunc 30 args).run Tryz.prog w=.ok (.enter 30 args) w:=cu (c:=Tryz.f30.body.getD .skip) Tryz.func30 (by decide) rfl
theorem Yx:∀args w,(callFunc 31 args).run Tryz.prog w=.ok (.enter 31 args) w:=cu (c:=Tryz.f31.body.getD .skip) Tryz.func31 (by decide) rfl
theorem ux:∀args w,(callFunc 32 args).run Tryz.prog w=.ok (.enter 32 args) w:=cu (c:=Tryz.f32.body.getD .skip) Tryz.func32 (by decide) rfl
theorem Pp:∀args w,(callFunc 33 args).run Tryz.prog w=.ok (.enter 33 args) w:=cu (c:=Tryz.f33.body.getD .skip) Tryz.func33 (by decide) rfl
theorem Yw:∀args w,(callFunc 34 args).run Tryz.prog w=.ok (.enter 34 args) w:=cu (c:=Tryz.f34.body.getD .skip) Tryz.func34 (by decide) rfl
theorem J0:∀args w,(callFunc 35 args).run Tryz.prog w=.ok (.enter 35 args) w:=cu (c:=Tryz.f35.body.getD .skip) Tryz.func35 (by decide) rfl
theorem sJ:∀args w,(callFunc 36 args).run Tryz.prog w=.ok (.enter 36 args) w:=cu (c:=Tryz.f36.body.getD .skip) Tryz.func36 (by decide) rfl
theorem xy:∀args w,(callFunc 37 args).run Tryz.prog w=.ok (.enter 37 args) w:=cu (c:=Tryz.f37.body.getD .skip) Tryz.func37 (by decide) rfl
theorem ake:∀args w,(callFunc 38 args).run Tryz.prog w=.ok (.enter 38 args) w:=cu (c:=Tryz.f38.body.getD .skip) Tryz.func38 (by decide) rfl
theorem Yv:∀args w,(callFunc 39 args).run Tryz.prog w=.ok (.enter 39 args) w:=cu (c:=Tryz.f39.body.getD .skip) Tryz.func39 (by decide) rfl
theorem Yu:∀args w,(callFunc 40 args).run Tryz.prog w=.ok (.enter 40 args) w:=cu (c:=Tryz.f40.body.getD .skip) Tryz.func40 (by decide) rfl
theorem Yt:∀args w,(callFunc 41 args).run Tryz.prog w=.ok (.enter 41 args) w:=cu (c:=Tryz.f41.body.getD .skip) Tryz.func41 (by decide) rfl
theorem Yr:∀args w,(callFunc 43 args).run Tryz.prog w=.ok (.enter 43 args) w:=cu (c:=Tryz.f43.body.getD .skip) Tryz.func43 (by decide) rfl
theorem Yq:∀args w,(callFunc 44 args).run Tryz.prog w=.ok (.enter 44 args) w:=cu (c:=Tryz.f44.body.getD .skip) Tryz.func44 (by decide) rfl
theorem akd:∀args w,(callFunc 46 args).run Tryz.prog w=.ok (.enter 46 args) w:=cu (c:=Tryz.f46.body.getD .skip) Tryz.func46 (by decide) rfl
theorem Po:∀args w,(callFunc 47 args).run Tryz.prog w=.ok (.enter 47 args) w:=cu (c:=Tryz.f47.body.getD .skip) Tryz.func47 (by decide) rfl
theorem akb:∀args w,(callFunc 48 args).run Tryz.prog w=.ok (.enter 48 args) w:=cu (c:=Tryz.f48.body.getD .skip) Tryz.func48 (by decide) rfl
theorem Yp:∀args w,(callFunc 49 args).run Tryz.prog w=.ok (.enter 49 args) w:=cu (c:=Tryz.f49.body.getD .skip) Tryz.func49 (by decide) rfl
theorem Yo:∀args w,(callFunc 51 args).run Tryz.prog w=.ok (.enter 51 args) w:=cu (c:=Tryz.f51.body.getD .skip) Tryz.func51 (by decide) rfl
theorem Pn:∀args w,(callFunc 52 args).run Tryz.prog w=.ok (.enter 52 args) w:=cu (c:=Tryz.f52.body.getD .skip) Tryz.func52 (by decide) rfl
theorem Yn:∀args w,(callFunc 53 args).run Tryz.prog w=.ok (.enter 53 args) w:=cu (c:=Tryz.f53.body.getD .skip) Tryz.func53 (by decide) rfl
theorem Ym:∀args w,(callFunc 54 args).run Tryz.prog w=.ok (.enter 54 args) w:=cu (c:=Tryz.f54.body.getD .skip) Tryz.func54 (by decide) rfl
theorem aka:∀args w,(callFunc 55 args).run Tryz.prog w=.ok (.enter 55 args) w:=cu (c:=Tryz.f55.body.getD .skip) Tryz.func55 (by decide) rfl
theorem aj9:∀args w,(callFunc 56 args).run Tryz.prog w=.ok (.enter 56 args) w:=cu (c:=Tryz.f56.body.getD .skip) Tryz.func56 (by decide) rfl
theorem aj8:∀args w,(callFunc 57 args).run Tryz.prog w=.ok (.enter 57 args) w:=cu (c:=Tryz.f57.body.getD .skip) Tryz.func57 (by decide) rfl
theorem JZ:∀args w,(callFunc 58 args).run Tryz.prog w=.ok (.enter 58 args) w:=cu (c:=Tryz.f58.body.getD .skip) Tryz.func58 (by decide) rfl
theorem Yl:∀args w,(callFunc 63 args).run Tryz.prog w=.ok (.enter 63 args) w:=cu (c:=Tryz.f63.body.getD .skip) Tryz.func63 (by decide) rfl
theorem aj7:∀args w,(callFunc 64 args).run Tryz.prog w=.ok (.enter 64 args) w:=cu (c:=Tryz.f64.body.getD .skip) Tryz.func64 (by decide) rfl
theorem Yk:∀args w,(callFunc 65 args).run Tryz.prog w=.ok (.enter 65 args) w:=cu (c:=Tryz.f65.body.getD .skip) Tryz.func65 (by decide) rfl
theorem Pm:∀args w,(callFunc 66 args).run Tryz.prog w=.ok (.enter 66 args) w:=cu (c:=Tryz.f66.body.getD .skip) Tryz.func66 (by decide) rfl
theorem JY:∀args w,(callFunc 67 args).run Tryz.prog w=.ok (.enter 67 args) w:=cu (c:=Tryz.f67.body.getD .skip) Tryz.func67 (by decide) rfl
theorem aj6:∀args w,(callFunc 68 args).run Tryz.prog w=.ok (.enter 68 args) w:=cu (c:=Tryz.f68.body.getD .skip) Tryz.func68 (by decide) rfl
theorem Yj:∀args w,(callFunc 69 args).run Tryz.prog w=.ok (.enter 69 args) w:=cu (c:=Tryz.f69.body.getD .skip) Tryz.func69 (by decide) rfl
theorem aj5:∀args w,(callFunc 73 args).run Tryz.prog w=.ok (.enter 73 args) w:=cu (c:=Tryz.f73.body.getD .skip) Tryz.func73 (by decide) rfl
theorem aj4:∀args w,(callFunc 74 args).run Tryz.prog w=.ok (.enter 74 args) w:=cu (c:=Tryz.f74.body.getD .skip) Tryz.func74 (by decide) rfl
theorem aj3:∀args w,(callFunc 76 args).run Tryz.prog w=.ok (.enter 76 args) w:=cu (c:=Tryz.f76.body.getD .skip) Tryz.func76 (by decide) rfl
theorem aj2:∀args w,(callFunc 78 args).run Tryz.prog w=.ok (.enter 78 args) w:=cu (c:=Tryz.f78.body.getD .skip) Tryz.func78 (by decide) rfl
theorem aj1:∀args w,(callFunc 79 args).run Tryz.prog w=.ok (.enter 79 args) w:=cu (c:=Tryz.f79.body.getD .skip) Tryz.func79 (by decide) rfl
theorem Yi:∀args w,(callFunc 81 args).run Tryz.prog w=.ok (.enter 81 args) w:=cu (c:=Tryz.f81.body.getD .skip) Tryz.func81 (by decide) rfl
theorem Pk:∀args w,(callFunc 82 args).run Tryz.prog w=.ok (.enter 82 args) w:=cu (c:=Tryz.f82.body.getD .skip) Tryz.func82 (by decide) rfl
theorem aj0:∀args w,(callFunc 83 args).run Tryz.prog w=.ok (.enter 83 args) w:=cu (c:=Tryz.f83.body.getD .skip) Tryz.func83 (by decide) rfl
theorem ajZ:∀args w,(callFunc 84 args).run Tryz.prog w=.ok (.enter 84 args) w:=cu (c:=Tryz.f84.body.getD .skip) Tryz.func84 (by decide) rfl
theorem ajY:∀args w,(callFunc 85 args).run Tryz.prog w=.ok (.enter 85 args) w:=cu (c:=Tryz.f85.body.getD .skip) Tryz.func85 (by decide) rfl
theorem ajX:∀args w,(callFunc 89 args).run Tryz.prog w=.ok (.enter 89 args) w:=cu (c:=Tryz.f89.body.getD .skip) Tryz.func89 (by decide) rfl
theorem Yh:∀args w,(callFunc 90 args).run Tryz.prog w=.ok (.enter 90 args) w:=cu (c:=Tryz.f90.body.getD .skip) Tryz.func90 (by decide) rfl
theorem JX:∀args w,(callFunc 91 args).run Tryz.prog w=.ok (.enter 91 args) w:=cu (c:=Tryz.f91.body.getD .skip) Tryz.func91 (by decide) rfl
theorem og:∀args w,(callFunc 92 args).run Tryz.prog w=.ok (.enter 92 args) w:=cu (c:=Tryz.f92.body.getD .skip) Tryz.func92 (by decide) rfl
theorem ajW:∀args w,(callFunc 94 args).run Tryz.prog w=.ok (.enter 94 args) w:=cu (c:=Tryz.f94.body.getD .skip) Tryz.func94 (by decide) rfl
theorem Pj:∀args w,(callFunc 96 args).run Tryz.prog w=.ok (.enter 96 args) w:=cu (c:=Tryz.f96.body.getD .skip) Tryz.func96 (by decide) rfl
theorem JW:∀args w,(callFunc 97 args).run Tryz.prog w=.ok (.enter 97 args) w:=cu (c:=Tryz.f97.body.getD .skip) Tryz.func97 (by decide) rfl
theorem ajV:∀args w,(callFunc 98 args).run Tryz.prog w=.ok (.enter 98 args) w:=cu (c:=Tryz.f98.body.getD .skip) Tryz.func98 (by decide) rfl
theorem ahJ:∀args w,(callFunc 105 args).run Tryz.prog w=.ok (.enter 105 args) w:=cu (c:=Tryz.f105.body.getD .skip) Tryz.func105 (by decide) rfl
theorem NZ:∀args w,(callFunc 106 args).run Tryz.prog w=.ok (.enter 106 args) w:=cu (c:=Tryz.f106.body.getD .skip) Tryz.func106 (by decide) rfl
theorem NY:∀args w,(callFunc 107 args).run Tryz.prog w=.ok (.enter 107 args) w:=cu (c:=Tryz.f107.body.getD .skip) Tryz.func107 (by decide) rfl
theorem ahI:∀args w,(callFunc 108 args).run Tryz.prog w=.ok (.enter 108 args) w:=cu (c:=Tryz.f108.body.getD .skip) Tryz.func108 (by decide) rfl
theorem Jw:∀args w,(callFunc 109 args).run Tryz.prog w=.ok (.enter 109 args) w:=cu (c:=Tryz.f109.body.getD .skip) Tryz.func109 (by decide) rfl
theorem ahH:∀args w,(callFunc 110 args).run Tryz.prog w=.ok (.enter 110 args) w:=cu (c:=Tryz.f110.body.getD .skip) Tryz.func110 (by decide) rfl
theorem W5:∀args w,(callFunc 113 args).run Tryz.prog w=.ok (.enter 113 args) w:=cu (c:=Tryz.f113.body.getD .skip) Tryz.func113 (by decide) rfl
theorem ahG:∀args w,(callFunc 114 args).run Tryz.prog w=.ok (.enter 114 args) w:=cu (c:=Tryz.f114.body.getD .skip) Tryz.func114 (by decide) rfl
theorem ahF:∀args w,(callFunc 122 args).run Tryz.prog w=.ok (.enter 122 args) w:=cu (c:=Tryz.f122.body.getD .skip) Tryz.func122 (by decide) rfl
theorem ahE:∀args w,(callFunc 123 args).run Tryz.prog w=.ok (.enter 123 args) w:=cu (c:=Tryz.f123.body.getD .skip) Tryz.func123 (by decide) rfl
theorem ahD:∀args w,(callFunc 124 args).run Tryz.prog w=.ok (.enter 124 args) w:=cu (c:=Tryz.f124.body.getD .skip) Tryz.func124 (by decide) rfl
theorem ahC:∀args w,(callFunc 144 args).run Tryz.prog w=.ok (.enter 144 args) w:=cu (c:=Tryz.f144.body.getD .skip) Tryz.func144 (by decide) rfl
theorem Jv:∀args w,(callFunc 145 args).run Tryz.prog w=.ok (.enter 145 args) w:=cu (c:=Tryz.f145.body.getD .skip) Tryz.func145 (by decide) rfl
theorem ahB:∀args w,(callFunc 146 args).run Tryz.prog w=.ok (.enter 146 args) w:=cu (c:=Tryz.f146.body.getD .skip) Tryz.func146 (by decide) rfl
theorem ahA:∀args w,(callFunc 147 args).run Tryz.prog w=.ok (.enter 147 args) w:=cu (c:=Tryz.f147.body.getD .skip) Tryz.func147 (by decide) rfl
theorem ahz:∀args w,(callFunc 156 args).run Tryz.prog w=.ok (.enter 156 args) w:=cu (c:=Tryz.f156.body.getD .skip) Tryz.func156 (by decide) rfl
end Go.Proofs.YtcohmplpgcddiaaGreatDoor
namespace Go.Proofs.YtcohmplpgcddiaaGreatDoor
open Go.ChangeShapes Go.WideShapes Go.ChangeAt Go.RowKit
theorem mr:sM Tryz.prog 3 (Value.int .i64):=acB aG
theorem Oq:Gk Tryz.prog 33 [(0,false),(1,true)]:=⟨[_,_],eA,⟨⟨by kernel_rfl,rfl,⟨_,aG⟩⟩,⟨by kernel_rfl,rfl,gY⟩,trivial⟩,by kernel_rfl,by kernel_rfl⟩
theorem agw:Gk Tryz.prog 106 [(0,false),(1,false)]:=⟨[_,_],dX,⟨⟨by kernel_rfl,rfl,⟨_,aG⟩⟩,⟨by kernel_rfl,rfl,⟨_,aG⟩⟩,trivial⟩,by kernel_rfl,by kernel_rfl⟩
theorem qp:jt Tryz.prog 61 (eZ 87):=⟨.slice none 0 0,qo,by kernel_rfl,rfl,by decide,by decide⟩
theorem bt:jt Tryz.prog 83 aQ:=⟨.int .i64 0,dm,by kernel_rfl,rfl,by decide,by decide⟩
theorem oM:jt Tryz.prog 88 (eZ 83):=⟨.slice none 0 0,FF,by kernel_rfl,rfl,by decide,by decide⟩
theorem pI:jt Tryz.prog 92 lF:=⟨.bool false,aie,by kernel_rfl,rfl,by decide,by decide⟩
end Go.Proofs.YtcohmplpgcddiaaGreatDoor
