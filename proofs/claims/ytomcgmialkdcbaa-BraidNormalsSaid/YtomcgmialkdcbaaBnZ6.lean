/- Part 6 of the proof of the law BraidNormals: the walks through its functions and the plain laws that they need. -/
import Derived.Test.YtomcgmialkdcbaaBnZ5
import Derived.Lib.SmallJoins
import Derived.Deep.Slices
import Derived.Deep.Fields
import Derived.ChangeSame
set_option linter.unusedSimpArgs false
set_option linter.unusedVariables false
namespace Go.Proofs.Ytomcgmialkdcbaa
open Go.ChangeShapes Go.WideShapes Go.ChangeAt Go.RowKit
theorem pw_len6 {m : Nat} {p : List Int} (h : PL m (0 :: p)) (hm : m ≤ 6) : (pmW p).length ≤ 15 := by
 have h1 := pmW_len h
 have h2 := invc_le p
 have h3 : p.length = m := by have := h.len; simpa using this
 have h4 : m * (m - 1) ≤ 6 * 5 := Nat.mul_le_mul hm (by omega)
 rw [h3] at h2
 omega
theorem rep_snoc (u : List Int) (i : Nat) : (List.replicate i u).flatten ++ u = (List.replicate (i + 1) u).flatten := by
 rw [List.replicate_succ', List.flatten_append]; simp
theorem half_snoc {m i : Nat} (hi : i < m) : ((delL m).drop 1).take i ++ [(m : Int) - (i : Int)] = ((delL m).drop 1).take (i + 1) := by
 rw [take_ga _ _ (by rw [List.length_drop, delL_len]; omega), drop1_ga, delL_ga (by omega) (by omega)]
 congr 2; omega
theorem okW.sm {n : Nat} {w : List Int} (h : okW n w) (hn : n ≤ 6) : smW w := fun i hi => by
 have := h _ (ga_mem hi); omega
theorem okW.lok_ {n : Nat} {w : List Int} (h : okW n w) : lok n w := fun i hi => by have := h _ (ga_mem hi); omega
theorem lok.okW_ {n : Nat} {w : List Int} (h : lok n w) : okW n w := fun x hx => by
 obtain ⟨i, hi, rfl⟩ := List.mem_iff_getElem.1 hx
 have := h i hi
 rw [ga_eq hi] at this
 omega
/-- Who ends at each place, as far as it is known. -/
def frI (p f : List Int) (j : Nat) : Prop := f.length = p.length ∧ ∀ x, x < j → ga f ((ga p x).toNat - 1) = (x : Int)
theorem frI.zero {p f : List Int} (h : f.length = p.length) : frI p f 0 := ⟨h, fun x hx => by omega⟩
theorem frI.step {m j : Nat} {p f : List Int} (hp : PL m (0 :: p)) (h : frI p f j) (hj : j < m) : frI p (f.set ((ga p j).toNat - 1) (j : Int)) (j + 1) := by
 have hl : p.length = m := by have := hp.len; simpa using this
 have r : ∀ x, x < m → 1 ≤ ga p x ∧ ga p x ≤ m := fun x hx => hp.rg (x + 1) (by omega) (by omega)
 refine ⟨by rw [List.length_set]; exact h.1, fun x hx => ?_⟩
 have r1 := r j hj
 have r2 := r x (by omega)
 rw [ga_set _ _ _ _ (by rw [h.1]; omega)]
 by_cases e : x = j
 ·subst e; rw [if_pos rfl]
 ·rw [if_neg (fun e2 => e (by
   have := hp.ij (x + 1) (j + 1) (by omega) (by omega) (by omega) (by omega) (show ga p x = ga p j by omega)
   omega))]
  exact h.2 x (by omega)
theorem fr_at {m : Nat} {P f : List Int} (h : PL m P) (hf : frI (P.drop 1) f m) {v : Nat} (hv : v < m) : ga f v = (plL P ((v : Int) + 1) : Int) - 1 := by
 obtain ⟨a, b, c⟩ := h.pl (i := v + 1) (by omega) (by omega)
 have e : ((v + 1 : Nat) : Int) = (v : Int) + 1 := by omega
 rw [e] at a b c
 have := hf.2 (plL P ((v : Int) + 1) - 1) (by omega)
 rw [drop1_ga, show plL P ((v : Int) + 1) - 1 + 1 = plL P ((v : Int) + 1) by omega, c, show ((v : Int) + 1).toNat - 1 = v by omega] at this
 rw [this]; omega
theorem lw_dead {m i : Nat} {P Q f : List Int} (hP : PL m P) (hl : LW m P Q) (hf : frI (P.drop 1) f m) (hi : i + 1 < m) (h1 : ga (Q.drop 1) (i + 1) < ga (Q.drop 1) i) (h2 : ga f i < ga f (i + 1)) : False := by
 rw [fr_at hP hf (by omega), fr_at hP hf hi] at h2
 rw [drop1_ga, drop1_ga] at h1
 have := hl (i + 1) (by omega) hi h1
 have e : ((i + 1 : Nat) : Int) = (i : Int) + 1 := by omega
 rw [e] at this h2
 omega
theorem Nf.pw {n : Nat} {w : List Int} {z : Int} {l : List (List Int)} (h : Nf n w z l) {k : Nat} (hk : k < l.length) : (pmW ((ga l k).drop 1)).length ≠ 0 ∧ (pmW ((ga l k).drop 1)).length ≠ (dlW n).length := by
 have hp := h.nf.ga_ k hk
 refine ⟨fun e => h.id _ (ga_mem hk) ?_, fun e => h.stb.nodel h.nf.pl h.del k hk ?_⟩
 ·have := pmW_nil hp.cons_pl (List.eq_nil_of_length_eq_zero e)
  rwa [hp.cons_] at this
 ·have := pmW_full hp.cons_pl e
  rwa [hp.cons_] at this
theorem dz_eq {m i : Nat} {z : Int} (hi : i = (max z (-z)).toNat) : (List.replicate i (if 0 < z then dlW m else invW (dlW m))).flatten = dzW m z := by
 subst hi
 unfold dzW
 by_cases c : 0 < z
 ·rw [if_pos c, if_pos c, show (max z (-z)).toNat = z.toNat by omega]
 ·rw [if_neg c, if_neg c, show (max z (-z)).toNat = (-z).toNat by omega]
theorem flat_snoc {l : List (List Int)} {k : Nat} (u : List Int) (hk : k < l.length) : u ++ (l.take k).flatMap (fun p => pmW (p.drop 1)) ++ pmW ((ga l k).drop 1) = u ++ (l.take (k + 1)).flatMap (fun p => pmW (p.drop 1)) := by
 rw [take_ga _ _ hk, List.flatMap_append, List.append_assoc]
 simp
noncomputable def NormalIs_n0 : Code := Try.f8.body.getD .skip
noncomputable def NormalIs_n1 : Code := cL NormalIs_n0
noncomputable def NormalIs_n2 : Code := cR NormalIs_n0
noncomputable def NormalIs_n3 : Code := cL NormalIs_n2
noncomputable def NormalIs_n4 : Code := cR NormalIs_n2
noncomputable def NormalIs_n5 : Code := cL NormalIs_n4
noncomputable def NormalIs_n6 : Code := cR NormalIs_n4
noncomputable def NormalIs_n7 : Code := cL NormalIs_n6
noncomputable def NormalIs_n8 : Code := cR NormalIs_n6
noncomputable def NormalIs_n9 : Code := cL NormalIs_n7
noncomputable def NormalIs_n10 : Code := cR NormalIs_n7
noncomputable def NormalIs_n11 : Code := cL NormalIs_n10
noncomputable def NormalIs_n12 : Code := cL NormalIs_n11
noncomputable def NormalIs_n13 : Code := cL NormalIs_n12
noncomputable def NormalIs_n14 : Code := cR NormalIs_n12
noncomputable def NormalIs_n15 : Code := cL NormalIs_n13
noncomputable def NormalIs_n16 : Code := cR NormalIs_n13
noncomputable def NormalIs_n17 : Code := cL NormalIs_n16
noncomputable def NormalIs_n18 : Code := cR NormalIs_n16
noncomputable def NormalIs_n19 : Code := cL NormalIs_n14
noncomputable def NormalIs_n20 : Code := cR NormalIs_n14
noncomputable def NormalIs_n21 : Code := cL NormalIs_n19
noncomputable def NormalIs_n22 : Code := cL NormalIs_n8
noncomputable def NormalIs_n23 : Code := cR NormalIs_n8
noncomputable def NormalIs_n24 : Code := cL NormalIs_n23
noncomputable def NormalIs_n25 : Code := cR NormalIs_n23
noncomputable def NormalIs_n26 : Code := cL NormalIs_n24
noncomputable def NormalIs_n27 : Code := cR NormalIs_n24
noncomputable def NormalIs_n28 : Code := cL NormalIs_n27
noncomputable def NormalIs_n29 : Code := cL NormalIs_n28
noncomputable def NormalIs_n30 : Code := cL NormalIs_n29
noncomputable def NormalIs_n31 : Code := cR NormalIs_n29
noncomputable def NormalIs_n32 : Code := cL NormalIs_n30
noncomputable def NormalIs_n33 : Code := cR NormalIs_n30
noncomputable def NormalIs_n34 : Code := cL NormalIs_n33
noncomputable def NormalIs_n35 : Code := cR NormalIs_n33
noncomputable def NormalIs_n36 : Code := cL NormalIs_n31
noncomputable def NormalIs_n37 : Code := cR NormalIs_n31
noncomputable def NormalIs_n38 : Code := cL NormalIs_n36
noncomputable def NormalIs_n39 : Code := cL NormalIs_n38
noncomputable def NormalIs_n40 : Code := cR NormalIs_n38
noncomputable def NormalIs_n41 : Code := cL NormalIs_n40
noncomputable def NormalIs_n42 : Code := cR NormalIs_n40
noncomputable def NormalIs_n43 : Code := cL NormalIs_n25
noncomputable def NormalIs_n44 : Code := cR NormalIs_n25
noncomputable def NormalIs_n45 : Code := cL NormalIs_n43
noncomputable def NormalIs_n46 : Code := cR NormalIs_n43
noncomputable def NormalIs_n47 : Code := cL NormalIs_n46
noncomputable def NormalIs_n48 : Code := cL NormalIs_n47
noncomputable def NormalIs_n49 : Code := cL NormalIs_n48
noncomputable def NormalIs_n50 : Code := cR NormalIs_n48
noncomputable def NormalIs_n51 : Code := cL NormalIs_n49
noncomputable def NormalIs_n52 : Code := cR NormalIs_n49
noncomputable def NormalIs_n53 : Code := cL NormalIs_n52
noncomputable def NormalIs_n54 : Code := cR NormalIs_n52
noncomputable def NormalIs_n55 : Code := cL NormalIs_n50
noncomputable def NormalIs_n56 : Code := cR NormalIs_n50
noncomputable def NormalIs_n57 : Code := cL NormalIs_n55
noncomputable def NormalIs_n58 : Code := cL NormalIs_n57
noncomputable def NormalIs_n59 : Code := cR NormalIs_n57
noncomputable def NormalIs_n60 : Code := cL NormalIs_n58
noncomputable def NormalIs_n61 : Code := cR NormalIs_n58
noncomputable def NormalIs_n63 : Code := cR NormalIs_n61
noncomputable def NormalIs_n64 : Code := cL NormalIs_n59
noncomputable def NormalIs_n65 : Code := cR NormalIs_n59
noncomputable def NormalIs_n66 : Code := cL NormalIs_n65
noncomputable def NormalIs_n67 : Code := cR NormalIs_n65
noncomputable def NormalIs_n68 : Code := cL NormalIs_n66
noncomputable def NormalIs_n69 : Code := cR NormalIs_n66
noncomputable def NormalIs_n70 : Code := cL NormalIs_n69
noncomputable def NormalIs_n71 : Code := cR NormalIs_n69
noncomputable def NormalIs_n72 : Code := cL NormalIs_n67
noncomputable def NormalIs_n73 : Code := cR NormalIs_n67
noncomputable def NormalIs_n74 : Code := cL NormalIs_n73
noncomputable def NormalIs_n75 : Code := cR NormalIs_n73
noncomputable def NormalIs_n76 : Code := cL NormalIs_n74
noncomputable def NormalIs_n77 : Code := cR NormalIs_n74
noncomputable def NormalIs_n78 : Code := cL NormalIs_n77
noncomputable def NormalIs_n79 : Code := cR NormalIs_n77
noncomputable def NormalIs_n80 : Code := cL NormalIs_n75
noncomputable def NormalIs_n81 : Code := cR NormalIs_n75
noncomputable def NormalIs_n82 : Code := cL NormalIs_n81
noncomputable def NormalIs_n83 : Code := cR NormalIs_n81
noncomputable def NormalIs_n84 : Code := cL NormalIs_n82
noncomputable def NormalIs_n85 : Code := cR NormalIs_n82
noncomputable def NormalIs_n86 : Code := cL NormalIs_n85
noncomputable def NormalIs_n87 : Code := cL NormalIs_n86
noncomputable def NormalIs_n88 : Code := cL NormalIs_n87
noncomputable def NormalIs_n89 : Code := cR NormalIs_n87
noncomputable def NormalIs_n90 : Code := cL NormalIs_n88
noncomputable def NormalIs_n91 : Code := cR NormalIs_n88
noncomputable def NormalIs_n92 : Code := cL NormalIs_n91
noncomputable def NormalIs_n93 : Code := cR NormalIs_n91
noncomputable def NormalIs_n94 : Code := cL NormalIs_n89
noncomputable def NormalIs_n95 : Code := cR NormalIs_n89
noncomputable def NormalIs_n96 : Code := cL NormalIs_n94
noncomputable def NormalIs_n97 : Code := cL NormalIs_n83
noncomputable def NormalIs_n98 : Code := cR NormalIs_n83
noncomputable def NormalIs_n99 : Code := cL NormalIs_n98
noncomputable def NormalIs_n100 : Code := cL NormalIs_n99
noncomputable def NormalIs_n101 : Code := cL NormalIs_n100
noncomputable def NormalIs_n102 : Code := cR NormalIs_n100
noncomputable def NormalIs_n103 : Code := cL NormalIs_n101
noncomputable def NormalIs_n104 : Code := cR NormalIs_n101
noncomputable def NormalIs_n105 : Code := cL NormalIs_n104
noncomputable def NormalIs_n106 : Code := cR NormalIs_n104
noncomputable def NormalIs_n107 : Code := cL NormalIs_n102
noncomputable def NormalIs_n108 : Code := cR NormalIs_n102
noncomputable def NormalIs_n109 : Code := cL NormalIs_n107
noncomputable def NormalIs_n110 : Code := cL NormalIs_n109
noncomputable def NormalIs_n111 : Code := cR NormalIs_n109
noncomputable def NormalIs_n112 : Code := cL NormalIs_n111
noncomputable def NormalIs_n113 : Code := cR NormalIs_n111
noncomputable def NormalIs_n114 : Code := cL NormalIs_n44
noncomputable def NormalIs_n115 : Code := cR NormalIs_n44
set_option maxRecDepth 10000 in
theorem NormalIs_t {w : World} {M : Hp} {X : Fr} (m : Nat) (l : List Int) {lA : Option Addr} {lc : Nat} (z : Int) (ps : List (List Int)) {psA : Option Addr} {psc : Nat} {psv : List SlV} (hl : RdA cdInt (M.un X.h) lA lc l) (hps : RdA (cdV 22) (M.un X.h) psA psc psv) (hdps : Rd2 cdInt (M.un X.h) psv ps) {ys : List (List Int)} (hm2 : 2 ≤ m) (hm : m ≤ 6) (hl20 : l.length ≤ 20) (hwl : lok m l) (hNf : Nf m l z ys) (hps9 : ps = ys.map fun p => p.drop 1) (S : SH w M X []) : Ct Try.prog 8 [.int .i64 (m : Int), .slice lA l.length lc, .int .i64 z, .slice psA psv.length psc] w M X (fun u _ => u = .bool true) := by
 unfold Ct
 have rmhl : l.length * 8 ≤ 140737488355328 := hl.room
 have rmhps : psv.length * 24 ≤ 140737488355328 := hps.room
 have hdd : (dlW m).length ≤ 15 := pw_len6 (by rw [del_cons]; exact PL.del_ m) hm
 have hds := (dlW_ok m).sm hm
 have hz9 := hNf.z
 have hy20 := hNf.len
 have hpv := hdps.1
 have hpy : ps.length = ys.length := by rw [hps9, List.length_map]
 have hdl := delL_len m
 have hil9 := invW_len (dlW m)
 refine calls_in (b := NormalIs_n0) Try.func8 rfl Try.ntmps8 rfl (fun C hC => (ws_sub [(0, _), (1, _), (2, _), (3, _)] ⟨rfl, rfl, rfl, rfl, trivial⟩ (ws_seqN NormalIs_n1 NormalIs_n2 rfl rfl rfl (ws_region rfl (wla 0 1 rfl rfl rfl rfl rfl rfl rfl ?_)))))
 refine wl_end rfl (nmk [0, 1, 2, 3] rfl (nm_thn (ws_seqN NormalIs_n3 NormalIs_n4 rfl rfl rfl (ws_region rfl ?_))))
 refine wla 0 1 rfl rfl rfl rfl rfl rfl rfl (wl_end rfl (nm_thn (ws_seqN NormalIs_n5 NormalIs_n6 rfl rfl rfl (ws_region rfl ?_))))
 refine wla 0 1 rfl rfl rfl rfl rfl rfl rfl (wl_end rfl (nm_thn (ws_seqN NormalIs_n7 NormalIs_n8 rfl rfl rfl (ws_seqN NormalIs_n9 NormalIs_n10 rfl rfl rfl ?_))))
 refine ws_region rfl (wla 0 1 rfl rfl rfl rfl rfl rfl rfl (wl_end rfl (nm_thn (ws_blockN NormalIs_n11 0 rfl rfl rfl ?_))))
 have S1 := S.nilrow cdInt; clear S
 refine ws_loopE (fun mx_ ax_ wx_ => ∃ (i : Nat) (hf : List Int) (vrh : Value), mx_ = m - i ∧ Env 137 [(0, .int .i64 (m : Int)), (1, .slice lA l.length lc), (2, .int .i64 z), (3, .slice psA psv.length psc), (9, .slice none 0 0), (10, vrh), (11, .int .i64 (i : Int))] ax_ ∧ SH wx_ M X [Rs.row cdInt vrh hf] ∧ i ≤ m ∧ hf = ((delL m).drop 1).take i) rfl ?_ ?_
 ·intro ax_ hax_
  refine ⟨_, ⟨0, [], _, rfl, hax_.sub ⟨rfl, rfl, rfl, rfl, rfl, rfl, rfl, trivial⟩, S1.pick [0] [_] (by decide) ⟨rfl, trivial⟩, ?hq1f0, ?hq1f1⟩⟩
  case hq1f0 => omega
  case hq1f1 => rfl
 ·rintro m1 a1 w1 ⟨i, hf, vrh, rfl, he1, S2, hi, hhf⟩
  clear S1
  refine ws_in he1 (c := NormalIs_n12) rfl ?_
  clear he1 a1
  have hhl : hf.length = i := by rw [hhf, List.length_take, List.length_drop, delL_len]; omega
  refine ws_seqN NormalIs_n13 NormalIs_n14 rfl rfl rfl (ws_seqN NormalIs_n15 NormalIs_n16 rfl rfl rfl (ws_region rfl (wlm 0 1 rfl rfl rfl rfl rfl rfl rfl (wlm 1 2 rfl rfl rfl rfl rfl rfl rfl ?_))))
  refine wlo 2 3 rfl rfl rfl (wo_run rfl rfl (run_lss rfl rfl rfl) (wl_end rfl (nmk [0, 1, 2, 3, 9, 10, 11, 21] rfl (nm_thn ?_))))
  refine ws_condN NormalIs_n17 NormalIs_n18 rfl rfl rfl rfl (fun hb21 => ?_) (fun hb21 => ?_)
  ·replace hb21 := of_decide_eq_true hb21
   refine ws_skip rfl (nmk [0, 1, 2, 3, 9, 10, 11] rfl (nm_thn (ws_seqN NormalIs_n19 NormalIs_n20 rfl rfl rfl (ws_blockN NormalIs_n21 1 rfl rfl rfl ?_))))
   refine ws_region rfl (wlm 0 1 rfl rfl rfl rfl rfl rfl rfl (wlm 1 2 rfl rfl rfl rfl rfl rfl rfl (wlm 2 3 rfl rfl rfl rfl rfl rfl rfl (wlo 3 4 rfl rfl rfl (wo_run rfl rfl (run_sub rfl rfl rfl (by first | omega | (simp only [lens]; omega))) ?_)))))
   refine wlo 4 5 rfl rfl rfl (wo_buildSlice1 (C := cdInt) (l := [_]) rfl rfl rfl rfl sl22 rfl rfl rfl rfl S2 ?_)
   intro gb1 w2 S3; clear S2
   refine wlo 5 6 rfl rfl rfl (wo_append1 (C := cdInt) (i := 1) (q := 0) ((m : Int) - (i : Int)) rfl rfl rfl rfl rfl rfl rfl rfl sl22 S3 rfl rfl rfl (by show (_ + 1) * 8 ≤ _; first | omega | (simp only [lens]; omega)) ?_)
   intro vrh1 w3 S4; clear S3
   have S5 := S4.pick [1] [_] (by decide) ⟨rfl, trivial⟩; clear S4
   refine wla 6 7 rfl rfl rfl rfl rfl rfl rfl (wl_end rfl (nm_blk (nmk [0, 1, 2, 3, 9, 10, 11] rfl (nm_thn ?_))))
   refine ws_region rfl (wlm 0 1 rfl rfl rfl rfl rfl rfl rfl (wlo 1 2 rfl rfl rfl (wo_run rfl rfl (run_add rfl rfl rfl (by first | omega | (simp only [lens]; omega))) ?_)))
   refine wla 2 3 rfl rfl rfl rfl rfl rfl rfl (wl_end rfl (nm_lp ?_))
   intro ax_ hax_
   refine ⟨_, ?hq2m, ⟨i + 1, _, _, rfl, hax_.sub ⟨rfl, rfl, rfl, rfl, rfl, rfl, rfl, trivial⟩, S5.pick [0] [_] (by decide) ⟨rfl, trivial⟩, ?hq2f0, ?hq2f1⟩⟩
   case hq2f0 => omega
   case hq2f1 => (rw [hhf]; exact half_snoc (by omega))
   case hq2m => omega
  ·replace hb21 := of_decide_eq_false hb21
   refine ws_exit rfl rfl (nmk [0, 1, 2, 3, 9, 10] rfl (nm_thn (ws_seqN NormalIs_n22 NormalIs_n23 rfl rfl rfl ?_)))
   have hrc1 : hf = (delL m).drop 1 := (by rw [hhf, show i = m by omega]; exact List.take_of_length_le (by rw [List.length_drop]; omega))
   rw [hrc1] at S2; clear hrc1
   have hdl2 : ((delL m).drop 1).length = m := by rw [List.length_drop]; omega
   refine ws_region rfl (wlm 0 1 rfl rfl rfl rfl rfl rfl rfl ?_)
   obtain ⟨A1, c1, e1, hr1⟩ := S2.lendRd (i := 0) rfl (by show _ * 8 ≤ _; first | omega | (simp only [lens]; omega))
   have hcall1 := PermWord_t ((delL m).drop 1) hr1 ((by omega)) S2.lend
   refine wlo 1 2 rfl rfl rfl (wo_ct rfl rfl rfl rfl rfl rfl rfl cf14 S2 (Ct.cast (by simp only [e1]) (hcall1)) ?_)
   intro vw4 w4 M1 hle2 S6 hRw4; clear S2
   replace hl := hl.mono (Hp.un_mono hle2 S6.mx)
   replace hps := hps.mono (Hp.un_mono hle2 S6.mx)
   replace hdps := hdps.mono (Hp.un_mono hle2 S6.mx)
   obtain ⟨A2, c2, rfl, hr2⟩ := hRw4
   refine wla 2 3 rfl rfl rfl rfl rfl rfl rfl (wl_end rfl (nmk [0, 1, 2, 3, 9, 12] rfl (nm_thn (ws_seqN NormalIs_n24 NormalIs_n25 rfl rfl rfl ?_))))
   refine ws_seqN NormalIs_n26 NormalIs_n27 rfl rfl rfl (ws_region rfl (wla 0 1 rfl rfl rfl rfl rfl rfl rfl (wl_end rfl (nm_thn ?_))))
   refine ws_blockN NormalIs_n28 2 rfl rfl rfl ?_
   have S7 := S6.nilrow cdInt; clear S6
   refine ws_loopE (fun mx_ ax_ wx_ => ∃ (i1 : Nat) (al1 : List Int) (vrl : Value) (M2 : Hp), M1.le M2 ∧ mx_ = (max z (-z)).toNat - i1 ∧ Env 137 [(0, .int .i64 (m : Int)), (1, .slice lA l.length lc), (2, .int .i64 z), (3, .slice psA psv.length psc), (9, vrl), (12, .slice A2 (dlW m).length c2), (13, .int .i64 (i1 : Int))] ax_ ∧ SH wx_ M2 X [Rs.row cdInt vrl al1] ∧ i1 ≤ (max z (-z)).toNat ∧ al1 = (List.replicate i1 (if 0 < z then dlW m else invW (dlW m))).flatten ∧ al1.length ≤ 15 * i1) rfl ?_ ?_
   ·intro ax_ hax_
    refine ⟨_, ⟨0, [], _, _, Hp.le_refl _, rfl, hax_.sub ⟨rfl, rfl, rfl, rfl, rfl, rfl, rfl, trivial⟩, S7.pick [0] [_] (by decide) ⟨rfl, trivial⟩, ?hq3f0, ?hq3f1, ?hq3f2⟩⟩
    case hq3f0 => omega
    case hq3f1 => rfl
    case hq3f2 => exact Nat.le_refl _
   ·rintro m2 a2 w5 ⟨i1, al1, vrl, M2, hle3, rfl, he2, S8, hi1, hal1, hll1⟩
    clear S7
    refine ws_in he2 (c := NormalIs_n29) rfl ?_
    clear he2 a2
    replace hl := hl.mono (Hp.un_mono hle3 S8.mx)
    replace hps := hps.mono (Hp.un_mono hle3 S8.mx)
    replace hdps := hdps.mono (Hp.un_mono hle3 S8.mx)
    replace hr2 := hr2.mono hle3
    refine ws_seqN NormalIs_n30 NormalIs_n31 rfl rfl rfl (ws_seqN NormalIs_n32 NormalIs_n33 rfl rfl rfl (ws_region rfl (wlm 0 1 rfl rfl rfl rfl rfl rfl rfl (wlm 1 2 rfl rfl rfl rfl rfl rfl rfl ?_))))
    refine wlo 2 3 rfl rfl rfl (wo_cq rfl rfl rfl rfl rfl rfl rfl cf15 S8 (abs_q z (by omega) S8.lend) ?_)
    rintro _ w6 S9 rfl; clear S8
    refine wlo 3 4 rfl rfl rfl (wo_run rfl rfl (run_lss rfl rfl rfl) (wl_end rfl (nmk [0, 1, 2, 3, 9, 12, 13, 35] rfl (nm_thn ?_))))
    refine ws_condN NormalIs_n34 NormalIs_n35 rfl rfl rfl rfl (fun hb35 => ?_) (fun hb35 => ?_)
    ·replace hb35 := of_decide_eq_true hb35
     refine ws_skip rfl (nmk [0, 1, 2, 3, 9, 12, 13] rfl (nm_thn (ws_seqN NormalIs_n36 NormalIs_n37 rfl rfl rfl (ws_blockN NormalIs_n38 3 rfl rfl rfl ?_))))
     refine ws_seqN NormalIs_n39 NormalIs_n40 rfl rfl rfl (ws_region rfl (wlm 0 1 rfl rfl rfl rfl rfl rfl rfl (wlo 1 2 rfl rfl rfl (wo_run rfl rfl (run_gtr rfl rfl rfl) (wl_end rfl ?_)))))
     refine nmk [0, 1, 2, 3, 9, 12, 13, 39] rfl (nm_thn ?_)
     refine ws_condN NormalIs_n41 NormalIs_n42 rfl rfl rfl rfl (fun hb39 => ?_) (fun hb39 => ?_)
     ·replace hb39 := of_decide_eq_true hb39
      refine ws_region rfl (wlm 0 1 rfl rfl rfl rfl rfl rfl rfl (wlm 1 2 rfl rfl rfl rfl rfl rfl rfl (wlo 2 3 rfl rfl rfl (wo_appendM (C := cdInt) (i := 0) rfl rfl rfl rfl rfl rfl rfl rfl sl22 S9 rfl hr2 S9.m (by show (_ + _) * 8 ≤ _; first | omega | (simp only [lens]; omega)) ?_))))
      intro vrl1 w7 S10; clear S9
      change SH _ _ _ [Rs.row cdInt vrl1 (al1 ++ (dlW m))] at S10
      refine wla 3 4 rfl rfl rfl rfl rfl rfl rfl (wl_end rfl (nm_blk (nmk [0, 1, 2, 3, 9, 12, 13] rfl (nm_thn ?_))))
      refine ws_region rfl (wlm 0 1 rfl rfl rfl rfl rfl rfl rfl (wlo 1 2 rfl rfl rfl (wo_run rfl rfl (run_add rfl rfl rfl (by first | omega | (simp only [lens]; omega))) ?_)))
      refine wla 2 3 rfl rfl rfl rfl rfl rfl rfl (wl_end rfl (nm_lp ?_))
      intro ax_ hax_
      refine ⟨_, ?hq4m, ⟨i1 + 1, _, _, _, (hle3), rfl, hax_.sub ⟨rfl, rfl, rfl, rfl, rfl, rfl, rfl, trivial⟩, S10.pick [0] [_] (by decide) ⟨rfl, trivial⟩, ?hq4f0, ?hq4f1, ?hq4f2⟩⟩
      case hq4f0 => omega
      case hq4f1 => (rw [← rep_snoc, ← hal1]; first | rw [if_pos (by omega)] | rw [if_neg (by omega)])
      case hq4f2 => (rw [List.length_append]; (try rw [invW_len]); omega)
      case hq4m => omega
     ·replace hb39 := of_decide_eq_false hb39
      refine ws_region rfl (wlm 0 1 rfl rfl rfl rfl rfl rfl rfl (wlm 1 2 rfl rfl rfl rfl rfl rfl rfl (wlo 2 3 rfl rfl rfl (wo_ct rfl rfl rfl rfl rfl rfl rfl cf16 S9 (recip_t (dlW m) (hr2.mono (Hp.le_un _ _)) (hds) S9.lend) ?_))))
      intro vw8 w8 M3 hle4 S11 hRw8; clear S9
      replace hl := hl.mono (Hp.un_mono hle4 S11.mx)
      replace hps := hps.mono (Hp.un_mono hle4 S11.mx)
      replace hdps := hdps.mono (Hp.un_mono hle4 S11.mx)
      replace hr2 := hr2.mono hle4
      obtain ⟨A3, c3, rfl, hr3⟩ := hRw8
      refine wlo 3 4 rfl rfl rfl (wo_appendM (C := cdInt) (i := 0) rfl rfl rfl rfl rfl rfl rfl rfl sl22 S11 rfl hr3 S11.m (by show (_ + _) * 8 ≤ _; first | omega | (simp only [lens]; omega)) ?_)
      intro vrl2 w9 S12; clear S11
      change SH _ _ _ [Rs.row cdInt vrl2 (al1 ++ (invW (dlW m)))] at S12
      refine wla 4 5 rfl rfl rfl rfl rfl rfl rfl (wl_end rfl (nm_blk (nmk [0, 1, 2, 3, 9, 12, 13] rfl (nm_thn ?_))))
      refine ws_region rfl (wlm 0 1 rfl rfl rfl rfl rfl rfl rfl (wlo 1 2 rfl rfl rfl (wo_run rfl rfl (run_add rfl rfl rfl (by first | omega | (simp only [lens]; omega))) ?_)))
      refine wla 2 3 rfl rfl rfl rfl rfl rfl rfl (wl_end rfl (nm_lp ?_))
      intro ax_ hax_
      refine ⟨_, ?hq5m, ⟨i1 + 1, _, _, _, (hle3.trans hle4), rfl, hax_.sub ⟨rfl, rfl, rfl, rfl, rfl, rfl, rfl, trivial⟩, S12.pick [0] [_] (by decide) ⟨rfl, trivial⟩, ?hq5f0, ?hq5f1, ?hq5f2⟩⟩
      case hq5f0 => omega
      case hq5f1 => (rw [← rep_snoc, ← hal1]; first | rw [if_pos (by omega)] | rw [if_neg (by omega)])
      case hq5f2 => (rw [List.length_append]; (try rw [invW_len]); omega)
      case hq5m => omega
    ·replace hb35 := of_decide_eq_false hb35
     refine ws_exit rfl rfl (nmk [0, 1, 3, 9, 12] rfl (nm_thn (ws_seqN NormalIs_n43 NormalIs_n44 rfl rfl rfl (ws_seqN NormalIs_n45 NormalIs_n46 rfl rfl rfl ?_))))
     refine ws_region rfl (wla 0 1 rfl rfl rfl rfl rfl rfl rfl (wl_end rfl (nm_thn (ws_blockN NormalIs_n47 4 rfl rfl rfl ?_))))
     refine ws_loopE (fun mx_ ax_ wx_ => ∃ (k : Nat) (al2 : List Int) (vrm : Value) (M4 : Hp), M2.le M4 ∧ mx_ = ys.length - k ∧ Env 137 [(0, .int .i64 (m : Int)), (1, .slice lA l.length lc), (3, .slice psA psv.length psc), (9, vrm), (12, .slice A2 (dlW m).length c2), (14, .int .i64 (k : Int))] ax_ ∧ SH wx_ M4 X [Rs.row cdInt vrm al2] ∧ k ≤ ys.length ∧ al2 = (dzW m z ++ (ys.take k).flatMap fun p => pmW (p.drop 1)) ∧ al2.length ≤ 300 + 15 * k) rfl ?_ ?_
     ·intro ax_ hax_
      refine ⟨_, ⟨0, al1, _, _, Hp.le_refl _, rfl, hax_.sub ⟨rfl, rfl, rfl, rfl, rfl, rfl, trivial⟩, S9.pick [0] [_] (by decide) ⟨rfl, trivial⟩, ?hq6f0, ?hq6f1, ?hq6f2⟩⟩
      case hq6f0 => omega
      case hq6f1 => (rw [hal1, dz_eq (by omega)]; simp)
      case hq6f2 => omega
     ·rintro m3 a3 w10 ⟨k, al2, vrm, M4, hle5, rfl, he3, S13, hk, hal2, hll2⟩
      clear S9
      refine ws_in he3 (c := NormalIs_n48) rfl ?_
      clear he3 a3
      replace hl := hl.mono (Hp.un_mono hle5 S13.mx)
      replace hps := hps.mono (Hp.un_mono hle5 S13.mx)
      replace hdps := hdps.mono (Hp.un_mono hle5 S13.mx)
      replace hr2 := hr2.mono hle5
      have hpk := fun (h : k < ys.length) => (show ga ps k = (ga ys k).drop 1 by rw [hps9, ga_map _ _ _ h])
      have hPk := hNf.nf.ga_ k
      have hpw := fun (h : k < ys.length) => hNf.pw h
      have hp1 := fun (h : k < ys.length) => pw_len6 (hPk h).cons_pl hm
      refine ws_seqN NormalIs_n49 NormalIs_n50 rfl rfl rfl (ws_seqN NormalIs_n51 NormalIs_n52 rfl rfl rfl (ws_region rfl (wlm 0 1 rfl rfl rfl rfl rfl rfl rfl (wlm 1 2 rfl rfl rfl rfl rfl rfl rfl ?_))))
      refine wlo 2 3 rfl rfl rfl (wo_run rfl rfl (run_len rfl rfl rfl rfl rfl rfl Try.underlying23) (wlo 3 4 rfl rfl rfl (wo_run rfl rfl (run_lss rfl rfl rfl) (wl_end rfl (nmk [0, 1, 3, 9, 12, 14, 50] rfl (nm_thn ?_))))))
      refine ws_condN NormalIs_n53 NormalIs_n54 rfl rfl rfl rfl (fun hb50 => ?_) (fun hb50 => ?_)
      ·replace hb50 := of_decide_eq_true hb50
       refine ws_skip rfl (nmk [0, 1, 3, 9, 12, 14] rfl (nm_thn (ws_seqN NormalIs_n55 NormalIs_n56 rfl rfl rfl (ws_blockN NormalIs_n57 5 rfl rfl rfl ?_))))
       refine ws_seqN NormalIs_n58 NormalIs_n59 rfl rfl rfl (ws_seqN NormalIs_n60 NormalIs_n61 rfl rfl rfl ?_)
       have hpk9 := hpk (by omega)
       have hPk9 := (hPk (by omega)).cons_pl
       rw [← hpk9] at hPk9
       have hkl : (ga ps k).length = m := by have := hPk9.len; simpa using this
       have hpw9 := hpw (by omega)
       rw [← hpk9] at hpw9
       have hp19 := hp1 (by omega)
       rw [← hpk9] at hp19
       refine ws_region rfl (wlm 0 1 rfl rfl rfl rfl rfl rfl rfl (wlm 1 2 rfl rfl rfl rfl rfl rfl rfl (wlm 2 3 rfl rfl rfl rfl rfl rfl rfl (wlo 3 4 rfl rfl rfl (wo_run rfl rfl (run_indexM (C := (cdV 22)) k rfl rfl rfl sl23 (by first | rfl | omega) hps (by first | omega | (simp only [lens]; omega))) ?_)))))
       obtain ⟨hn1, hr4⟩ := hdps.2 k (by first | omega | (simp only [lens]; omega))
       have rmhr4 : (ga ps k).length * 8 ≤ 140737488355328 := hr4.room
       refine wlo 4 5 rfl rfl rfl (wo_run rfl rfl (run_load1 rfl rfl Try.underlying22 rfl (hps.cell S13.um (i := k) (by first | omega | (simp only [lens]; omega)) 0 rfl (congrArg (fun n => some (Value.slice _ n _)) hn1))) ?_)
       refine wlo 5 6 rfl rfl rfl (wo_cq rfl rfl rfl rfl rfl rfl rfl cf17 S13 (PermIs_q m (ga ps k) (hr4.mono S13.un_XH) (hPk9) (hm) S13.lend) ?_)
       rintro _ w11 S14 rfl; clear S13
       refine wlo 6 7 rfl rfl rfl (wo_run rfl rfl (run_not rfl rfl) (wl_end rfl (nmk [0, 1, 3, 9, 12, 14, 59] rfl (nm_thn (ws_condFN NormalIs_n63 rfl rfl rfl ?_)))))
       refine ws_skip rfl (nmk [0, 1, 3, 9, 12, 14] rfl (nm_thn (ws_seqN NormalIs_n64 NormalIs_n65 rfl rfl rfl (ws_region rfl ?_))))
       refine wlm 0 1 rfl rfl rfl rfl rfl rfl rfl (wlm 1 2 rfl rfl rfl rfl rfl rfl rfl (wlo 2 3 rfl rfl rfl (wo_run rfl rfl (run_indexM (C := (cdV 22)) k rfl rfl rfl sl23 (by first | rfl | omega) hps (by first | omega | (simp only [lens]; omega))) ?_)))
       obtain ⟨hn2, hr5⟩ := hdps.2 k (by first | omega | (simp only [lens]; omega))
       have rmhr5 : (ga ps k).length * 8 ≤ 140737488355328 := hr5.room
       refine wlo 3 4 rfl rfl rfl (wo_run rfl rfl (run_load1 rfl rfl Try.underlying22 rfl (hps.cell S14.um (i := k) (by first | omega | (simp only [lens]; omega)) 0 rfl (congrArg (fun n => some (Value.slice _ n _)) hn2))) ?_)
       refine wlo 4 5 rfl rfl rfl (wo_ct rfl rfl rfl rfl rfl rfl rfl cf14 S14 (PermWord_t (ga ps k) (hr5.mono S14.un_XH) ((by omega)) S14.lend) ?_)
       intro vw12 w12 M5 hle6 S15 hRw12; clear S14
       replace hl := hl.mono (Hp.un_mono hle6 S15.mx)
       replace hps := hps.mono (Hp.un_mono hle6 S15.mx)
       replace hdps := hdps.mono (Hp.un_mono hle6 S15.mx)
       replace hr2 := hr2.mono hle6
       replace hr4 := hr4.mono (Hp.un_mono hle6 S15.mx)
       replace hr5 := hr5.mono (Hp.un_mono hle6 S15.mx)
       obtain ⟨A4, c4, rfl, hr6⟩ := hRw12
       refine wla 5 6 rfl rfl rfl rfl rfl rfl rfl (wl_end rfl (nmk [0, 1, 3, 9, 12, 14, 15] rfl (nm_thn (ws_seqN NormalIs_n66 NormalIs_n67 rfl rfl rfl ?_))))
       refine ws_seqN NormalIs_n68 NormalIs_n69 rfl rfl rfl (ws_region rfl (wlm 0 1 rfl rfl rfl rfl rfl rfl rfl (wlo 1 2 rfl rfl rfl (wo_run rfl rfl (run_len rfl rfl rfl rfl rfl rfl Try.underlying22) (wlo 2 3 rfl rfl rfl (wo_run rfl rfl (run_eql rfl rfl rfl) ?_))))))
       refine wlm 3 4 rfl rfl rfl rfl rfl rfl rfl ?_
       refine wl_split (t := 68) rfl (fun hg68 => ?_) (fun hg68 => ?_)
       ·replace hg68 := of_decide_eq_true hg68
        exfalso; omega
       ·replace hg68 := of_decide_eq_false hg68
        refine wlg 4 5 rfl rfl rfl rfl rfl rfl rfl rfl (wo_run rfl rfl (run_move rfl rfl) (wlg 5 6 rfl rfl rfl rfl rfl rfl rfl rfl (wo_run rfl rfl (run_len rfl rfl rfl rfl rfl rfl Try.underlying22) (wlg 6 7 rfl rfl rfl rfl rfl rfl rfl rfl (wo_run rfl rfl (run_move rfl rfl) (wlg 7 8 rfl rfl rfl rfl rfl rfl rfl rfl (wo_run rfl rfl (run_len rfl rfl rfl rfl rfl rfl Try.underlying22) (wlg 8 9 rfl rfl rfl rfl rfl rfl rfl rfl (wo_run rfl rfl (run_eql rfl rfl rfl) ?_)))))))))
        refine wlo 9 10 rfl rfl rfl (wo_run rfl rfl (run_pickF rfl rfl rfl) (wl_end rfl (nmk [0, 1, 3, 9, 12, 14, 15, 74] rfl (nm_thn ?_))))
        refine ws_condN NormalIs_n70 NormalIs_n71 rfl rfl rfl rfl (fun hb74 => ?_) (fun hb74 => ?_)
        ·replace hb74 := of_decide_eq_true hb74
         exfalso; omega
        ·replace hb74 := of_decide_eq_false hb74
         refine ws_skip rfl (nmk [0, 1, 3, 9, 12, 14, 15] rfl (nm_thn (ws_seqN NormalIs_n72 NormalIs_n73 rfl rfl rfl (ws_region rfl ?_))))
         refine wlm 0 1 rfl rfl rfl rfl rfl rfl rfl (wlm 1 2 rfl rfl rfl rfl rfl rfl rfl (wlo 2 3 rfl rfl rfl (wo_appendM (C := cdInt) (i := 0) rfl rfl rfl rfl rfl rfl rfl rfl sl22 S15 rfl hr6 S15.m (by show (_ + _) * 8 ≤ _; first | omega | (simp only [lens]; omega)) ?_)))
         intro vrm1 w13 S16; clear S15
         change SH _ _ _ [Rs.row cdInt vrm1 (al2 ++ (pmW (ga ps k)))] at S16
         refine wla 3 4 rfl rfl rfl rfl rfl rfl rfl (wl_end rfl (nmk [0, 1, 3, 9, 12, 14] rfl (nm_thn (ws_seqN NormalIs_n74 NormalIs_n75 rfl rfl rfl ?_))))
         refine ws_seqN NormalIs_n76 NormalIs_n77 rfl rfl rfl (ws_region rfl (wlm 0 1 rfl rfl rfl rfl rfl rfl rfl (wlo 1 2 rfl rfl rfl (wo_run rfl rfl (run_eql rfl rfl rfl) (wl_end rfl ?_)))))
         refine nmk [0, 1, 3, 9, 12, 14, 79] rfl (nm_thn ?_)
         refine ws_condN NormalIs_n78 NormalIs_n79 rfl rfl rfl rfl (fun hb79 => ?_) (fun hb79 => ?_)
         ·replace hb79 := of_decide_eq_true hb79
          refine ws_exit rfl rfl (nmk [0, 1, 3, 9, 12, 14] rfl (nm_thn (ws_region rfl (wlm 0 1 rfl rfl rfl rfl rfl rfl rfl ?_))))
          refine wlo 1 2 rfl rfl rfl (wo_run rfl rfl (run_add rfl rfl rfl (by first | omega | (simp only [lens]; omega))) ?_)
          refine wla 2 3 rfl rfl rfl rfl rfl rfl rfl (wl_end rfl (nm_lp ?_))
          intro ax_ hax_
          refine ⟨_, ?hq7m, ⟨k + 1, _, _, _, (hle5.trans hle6), rfl, hax_.sub ⟨rfl, rfl, rfl, rfl, rfl, rfl, trivial⟩, S16.pick [0] [_] (by decide) ⟨rfl, trivial⟩, ?hq7f0, ?hq7f1, ?hq7f2⟩⟩
          case hq7f0 => omega
          case hq7f1 => (rw [hal2, hpk9, flat_snoc _ (by omega)])
          case hq7f2 => (rw [List.length_append]; omega)
          case hq7m => omega
         ·replace hb79 := of_decide_eq_false hb79
          have hp1k : ga ps (k - 1) = (ga ys (k - 1)).drop 1 := by rw [hps9, ga_map _ _ _ (by omega)]
          have hP1 := hNf.nf.ga_ (k - 1) (by omega)
          have hP1c := hP1.cons_pl
          rw [← hp1k] at hP1c
          have hpl1 : (ga ps (k - 1)).length = m := by have := hP1c.len; simpa using this
          have hLW := hNf.stb (k - 1) (by omega)
          rw [show k - 1 + 1 = k by omega] at hLW
          refine ws_skip rfl (nmk [0, 1, 3, 9, 12, 14] rfl (nm_thn (ws_seqN NormalIs_n80 NormalIs_n81 rfl rfl rfl (ws_region rfl ?_))))
          refine wlm 0 1 rfl rfl rfl rfl rfl rfl rfl (wlo 1 2 rfl rfl rfl (wo_make (C := cdInt) m rfl rfl rfl rfl rfl sl22 (by first | rfl | omega) (by show _ * 8 ≤ _; first | omega | (simp only [lens]; omega)) S16 ?_))
          intro vr3 w14 S17; clear S16
          refine wla 2 3 rfl rfl rfl rfl rfl rfl rfl (wl_end rfl (nmk [0, 1, 3, 9, 12, 14, 16] rfl (nm_thn (ws_seqN NormalIs_n82 NormalIs_n83 rfl rfl rfl ?_))))
          refine ws_seqN NormalIs_n84 NormalIs_n85 rfl rfl rfl (ws_region rfl (wla 0 1 rfl rfl rfl rfl rfl rfl rfl (wl_end rfl (nm_thn ?_))))
          refine ws_blockN NormalIs_n86 6 rfl rfl rfl ?_
          refine ws_loopE (fun mx_ ax_ wx_ => ∃ (j : Nat) (fr : List Int) (vrf : Value), mx_ = m - j ∧ Env 137 [(0, .int .i64 (m : Int)), (1, .slice lA l.length lc), (3, .slice psA psv.length psc), (9, vrm1), (12, .slice A2 (dlW m).length c2), (14, .int .i64 (k : Int)), (16, vrf), (17, .int .i64 (j : Int))] ax_ ∧ SH wx_ M5 X [Rs.row cdInt vrf fr, Rs.row cdInt vrm1 (al2 ++ (pmW (ga ps k)))] ∧ j ≤ m ∧ frI (ga ps (k - 1)) fr j) rfl ?_ ?_
          ·intro ax_ hax_
           refine ⟨_, ⟨0, _, _, rfl, hax_.sub ⟨rfl, rfl, rfl, rfl, rfl, rfl, rfl, rfl, trivial⟩, S17.pick [0, 1] [_, _] (by decide) ⟨rfl, rfl, trivial⟩, ?hq8f0, ?hq8f1⟩⟩
           case hq8f0 => omega
           case hq8f1 => exact frI.zero (by rw [List.length_replicate]; omega)
          ·rintro m4 a4 w15 ⟨j, fr, vrf, rfl, he4, S18, hj, hfr⟩
           clear S17
           refine ws_in he4 (c := NormalIs_n87) rfl ?_
           clear he4 a4
           have hfl := hfr.1
           have hrj := fun (h : j < m) => hP1c.rg (j + 1) (by omega) (by omega)
           refine ws_seqN NormalIs_n88 NormalIs_n89 rfl rfl rfl (ws_seqN NormalIs_n90 NormalIs_n91 rfl rfl rfl (ws_region rfl (wlm 0 1 rfl rfl rfl rfl rfl rfl rfl (wlm 1 2 rfl rfl rfl rfl rfl rfl rfl ?_))))
           refine wlo 2 3 rfl rfl rfl (wo_run rfl rfl (run_lss rfl rfl rfl) (wl_end rfl (nmk [0, 1, 3, 9, 12, 14, 16, 17, 84] rfl (nm_thn ?_))))
           refine ws_condN NormalIs_n92 NormalIs_n93 rfl rfl rfl rfl (fun hb84 => ?_) (fun hb84 => ?_)
           ·replace hb84 := of_decide_eq_true hb84
            refine ws_skip rfl (nmk [0, 1, 3, 9, 12, 14, 16, 17] rfl (nm_thn (ws_seqN NormalIs_n94 NormalIs_n95 rfl rfl rfl (ws_blockN NormalIs_n96 7 rfl rfl rfl ?_))))
            refine ws_region rfl (wlm 0 1 rfl rfl rfl rfl rfl rfl rfl (wlm 1 2 rfl rfl rfl rfl rfl rfl rfl (wlm 2 3 rfl rfl rfl rfl rfl rfl rfl (wlo 3 4 rfl rfl rfl (wo_run rfl rfl (run_sub rfl rfl rfl (by first | omega | (simp only [lens]; omega))) ?_)))))
            refine wl_eq 90 (.int .i64 ((k - 1 : Nat) : Int)) rfl (int_eq (by omega)) ?_
            refine wlo 4 5 rfl rfl rfl (wo_run rfl rfl (run_indexM (C := (cdV 22)) (k - 1) rfl rfl rfl sl23 (by first | rfl | omega) hps (by first | omega | (simp only [lens]; omega))) ?_)
            obtain ⟨hn3, hr7⟩ := hdps.2 (k - 1) (by first | omega | (simp only [lens]; omega))
            have rmhr7 : (ga ps (k - 1)).length * 8 ≤ 140737488355328 := hr7.room
            refine wlo 5 6 rfl rfl rfl (wo_run rfl rfl (run_load1 rfl rfl Try.underlying22 rfl (hps.cell S18.um (i := k - 1) (by first | omega | (simp only [lens]; omega)) 0 rfl (congrArg (fun n => some (Value.slice _ n _)) hn3))) ?_)
            refine wlm 6 7 rfl rfl rfl rfl rfl rfl rfl (wlo 7 8 rfl rfl rfl (wo_run rfl rfl (run_indexM (C := cdInt) j rfl rfl rfl sl22 (by first | rfl | omega) hr7 (by first | omega | (simp only [lens]; omega))) ?_))
            refine wlo 8 9 rfl rfl rfl (wo_run rfl rfl (run_load1 rfl rfl Try.underlying3 rfl (hr7.cell S18.um (i := j) (by first | omega | (simp only [lens]; omega)) 0 rfl rfl)) ?_)
            have hrj9 := hrj (by omega)
            have hrj8 : 1 ≤ ga (ga ps (k - 1)) j := hrj9.1
            have hrj7 : ga (ga ps (k - 1)) j ≤ (m : Int) := hrj9.2
            refine wlo 9 10 rfl rfl rfl (wo_run rfl rfl (run_sub rfl rfl rfl (by first | omega | (simp only [lens]; omega))) ?_)
            refine wlm 10 11 rfl rfl rfl rfl rfl rfl rfl (wl_eq 96 (.int .i64 (((ga (ga ps (k - 1)) j).toNat - 1 : Nat) : Int)) rfl (int_eq (by omega)) ?_)
            refine wlo 11 12 rfl rfl rfl (wo_run rfl rfl (run_indexR (C := cdInt) (i := 0) ((ga (ga ps (k - 1)) j).toNat - 1) rfl rfl rfl sl22 S18 rfl (by first | rfl | omega) (by first | omega | (simp only [lens]; omega))) ?_)
            refine wlo 12 13 rfl rfl rfl (wo_storeR (C := cdInt) (i := 0) (e := (ga (ga ps (k - 1)) j).toNat - 1) (j := 0) (us := [_]) (H' := [_, _]) (j : Int) rfl rfl S18 rfl (by first | omega | (simp only [lens]; omega)) rfl rfl rfl sz3 rfl rfl rfl rfl ?_)
            intro w16 S19; clear S18
            refine wl_end rfl (nm_blk (nmk [0, 1, 3, 9, 12, 14, 16, 17] rfl (nm_thn (ws_region rfl ?_))))
            refine wlm 0 1 rfl rfl rfl rfl rfl rfl rfl (wlo 1 2 rfl rfl rfl (wo_run rfl rfl (run_add rfl rfl rfl (by first | omega | (simp only [lens]; omega))) ?_))
            refine wla 2 3 rfl rfl rfl rfl rfl rfl rfl (wl_end rfl (nm_lp ?_))
            intro ax_ hax_
            refine ⟨_, ?hq9m, ⟨j + 1, _, _, rfl, hax_.sub ⟨rfl, rfl, rfl, rfl, rfl, rfl, rfl, rfl, trivial⟩, S19.pick [0, 1] [_, _] (by decide) ⟨rfl, rfl, trivial⟩, ?hq9f0, ?hq9f1⟩⟩
            case hq9f0 => omega
            case hq9f1 => exact hfr.step hP1c (by omega)
            case hq9m => omega
           ·replace hb84 := of_decide_eq_false hb84
            refine ws_exit rfl rfl (nmk [0, 1, 3, 9, 12, 14, 16] rfl (nm_thn (ws_seqN NormalIs_n97 NormalIs_n98 rfl rfl rfl (ws_region rfl ?_))))
            refine wla 0 1 rfl rfl rfl rfl rfl rfl rfl (wl_end rfl (nm_thn (ws_blockN NormalIs_n99 8 rfl rfl rfl ?_)))
            refine ws_loopE (fun mx_ ax_ wx_ => ∃ (y : Nat), mx_ = m - y ∧ Env 137 [(0, .int .i64 (m : Int)), (1, .slice lA l.length lc), (3, .slice psA psv.length psc), (9, vrm1), (12, .slice A2 (dlW m).length c2), (14, .int .i64 (k : Int)), (16, vrf), (18, .int .i64 (y : Int))] ax_ ∧ SH wx_ M5 X [Rs.row cdInt vrf fr, Rs.row cdInt vrm1 (al2 ++ (pmW (ga ps k)))] ∧ y ≤ m) rfl ?_ ?_
            ·intro ax_ hax_
             refine ⟨_, ⟨0, rfl, hax_.sub ⟨rfl, rfl, rfl, rfl, rfl, rfl, rfl, rfl, trivial⟩, S18.pick [0, 1] [_, _] (by decide) ⟨rfl, rfl, trivial⟩, ?hq10f0⟩⟩
             case hq10f0 => omega
            ·rintro m5 a5 w17 ⟨y, rfl, he5, S20, hy⟩
             clear S18
             refine ws_in he5 (c := NormalIs_n100) rfl ?_
             clear he5 a5
             refine ws_seqN NormalIs_n101 NormalIs_n102 rfl rfl rfl (ws_seqN NormalIs_n103 NormalIs_n104 rfl rfl rfl (ws_region rfl (wlm 0 1 rfl rfl rfl rfl rfl rfl rfl (wlo 1 2 rfl rfl rfl (wo_run rfl rfl (run_add rfl rfl rfl (by first | omega | (simp only [lens]; omega))) ?_)))))
             refine wlm 2 3 rfl rfl rfl rfl rfl rfl rfl (wlo 3 4 rfl rfl rfl (wo_run rfl rfl (run_lss rfl rfl rfl) (wl_end rfl (nmk [0, 1, 3, 9, 12, 14, 16, 18, 102] rfl (nm_thn ?_)))))
             refine ws_condN NormalIs_n105 NormalIs_n106 rfl rfl rfl rfl (fun hb102 => ?_) (fun hb102 => ?_)
             ·replace hb102 := of_decide_eq_true hb102
              refine ws_skip rfl (nmk [0, 1, 3, 9, 12, 14, 16, 18] rfl (nm_thn (ws_seqN NormalIs_n107 NormalIs_n108 rfl rfl rfl (ws_blockN NormalIs_n109 9 rfl rfl rfl ?_))))
              refine ws_seqN NormalIs_n110 NormalIs_n111 rfl rfl rfl (ws_draw rfl (by kernel_rfl) S20 28 rfl ?_)
              clear S20
              refine wap 0 27 rfl (by kernel_rfl) rfl rfl rfl (fun w18 => run_move rfl rfl) ?_
              refine wap 1 26 rfl (by kernel_rfl) rfl rfl rfl (fun w19 => run_move rfl rfl) ?_
              refine wat 2 25 rfl (by kernel_rfl) rfl rfl rfl (fun M8 N3 w20 hle11 S23 => .inl (run_indexM (C := (cdV 22)) k rfl rfl rfl sl23 (by first | rfl | omega) (hps.mono (Hp.un_mono hle11 S23.mx)) (by first | omega | (simp only [lens]; omega)))) ?_
              obtain ⟨hn4, hr8⟩ := hdps.2 k (by first | omega | (simp only [lens]; omega))
              have rmhr8 : (ga ps k).length * 8 ≤ 140737488355328 := hr8.room
              refine wat 3 24 rfl (by kernel_rfl) rfl rfl rfl (fun M9 N4 w21 hle12 S24 => .inl (run_load1 rfl rfl Try.underlying22 rfl ((hps.mono (Hp.un_mono hle12 S24.mx)).cell S24.um (i := k) (by first | omega | (simp only [lens]; omega)) 0 rfl (congrArg (fun n => some (Value.slice _ n _)) hn4)))) ?_
              refine wap 4 23 rfl (by kernel_rfl) rfl rfl rfl (fun w22 => run_move rfl rfl) ?_
              refine wat 5 22 rfl (by kernel_rfl) rfl rfl rfl (fun M11 N6 w23 hle14 S26 => .inl (run_indexM (C := cdInt) y rfl rfl rfl sl22 (by first | rfl | omega) (hr8.mono (Hp.un_mono hle14 S26.mx)) (by first | omega | (simp only [lens]; omega)))) ?_
              refine wat 6 21 rfl (by kernel_rfl) rfl rfl rfl (fun M12 N7 w24 hle15 S27 => .inl (run_load1 rfl rfl Try.underlying3 rfl ((hr8.mono (Hp.un_mono hle15 S27.mx)).cell S27.um (i := y) (by first | omega | (simp only [lens]; omega)) 0 rfl rfl))) ?_
              refine wap 7 20 rfl (by kernel_rfl) rfl rfl rfl (fun w25 => run_move rfl rfl) ?_
              refine wap 8 19 rfl (by kernel_rfl) rfl rfl rfl (fun w26 => run_move rfl rfl) ?_
              refine wat 9 18 rfl (by kernel_rfl) rfl rfl rfl (fun M15 N10 w27 hle18 S30 => .inl (run_indexM (C := (cdV 22)) k rfl rfl rfl sl23 (by first | rfl | omega) (hps.mono (Hp.un_mono hle18 S30.mx)) (by first | omega | (simp only [lens]; omega)))) ?_
              obtain ⟨hn5, hr9⟩ := hdps.2 k (by first | omega | (simp only [lens]; omega))
              have rmhr9 : (ga ps k).length * 8 ≤ 140737488355328 := hr9.room
              refine wat 10 17 rfl (by kernel_rfl) rfl rfl rfl (fun M16 N11 w28 hle19 S31 => .inl (run_load1 rfl rfl Try.underlying22 rfl ((hps.mono (Hp.un_mono hle19 S31.mx)).cell S31.um (i := k) (by first | omega | (simp only [lens]; omega)) 0 rfl (congrArg (fun n => some (Value.slice _ n _)) hn5)))) ?_
              refine wap 11 16 rfl (by kernel_rfl) rfl rfl rfl (fun w29 => run_move rfl rfl) ?_
              refine wap 12 15 rfl (by kernel_rfl) rfl rfl rfl (fun w30 => run_add rfl rfl rfl (by first | omega | (simp only [lens]; omega))) ?_
              refine wat 13 14 rfl (by kernel_rfl) rfl rfl rfl (fun M19 N14 w31 hle22 S34 => .inl (run_indexM (C := cdInt) (y + 1) rfl rfl rfl sl22 (by first | rfl | omega) (hr9.mono (Hp.un_mono hle22 S34.mx)) (by first | omega | (simp only [lens]; omega)))) ?_
              refine wat 14 13 rfl (by kernel_rfl) rfl rfl rfl (fun M20 N15 w32 hle23 S35 => .inl (run_load1 rfl rfl Try.underlying3 rfl ((hr9.mono (Hp.un_mono hle23 S35.mx)).cell S35.um (i := y + 1) (by first | omega | (simp only [lens]; omega)) 0 rfl rfl))) ?_
              refine wap 15 12 rfl (by kernel_rfl) rfl rfl rfl (fun w33 => run_gtr rfl rfl rfl) ?_
              refine wap 16 11 rfl (by kernel_rfl) rfl rfl rfl (fun w34 => run_move rfl rfl) ?_
              refine wa_split (t := 121) rfl (fun hg121 => ?_) (fun hg121 => ?_)
              ·replace hg121 := of_decide_eq_true hg121
               refine wap 17 10 rfl (by kernel_rfl) ⟨_, _, _, rfl, rfl, rfl, rfl⟩ rfl rfl (fun w35 => run_move rfl rfl) ?_
               refine wap 18 9 rfl (by kernel_rfl) ⟨_, _, _, rfl, rfl, rfl, rfl⟩ rfl rfl (fun w36 => run_move rfl rfl) ?_
               refine wat 19 8 rfl (by kernel_rfl) ⟨_, _, _, rfl, rfl, rfl, rfl⟩ rfl rfl (fun M25 N20 w37 hle28 S40 => .inl (run_indexR (C := cdInt) (i := 0) y rfl rfl rfl sl22 S40.suf rfl (by first | rfl | omega) (by first | omega | (simp only [lens]; omega)))) ?_
               refine wat 20 7 rfl (by kernel_rfl) ⟨_, _, _, rfl, rfl, rfl, rfl⟩ rfl rfl (fun M26 N21 w38 hle29 S41 => .inl (run_load1 rfl rfl Try.underlying3 rfl (S41.suf.rowc (i := 0) (e := y) (j := 0) rfl (by first | omega | (simp only [lens]; omega)) rfl rfl))) ?_
               refine wap 21 6 rfl (by kernel_rfl) ⟨_, _, _, rfl, rfl, rfl, rfl⟩ rfl rfl (fun w39 => run_move rfl rfl) ?_
               refine wap 22 5 rfl (by kernel_rfl) ⟨_, _, _, rfl, rfl, rfl, rfl⟩ rfl rfl (fun w40 => run_move rfl rfl) ?_
               refine wap 23 4 rfl (by kernel_rfl) ⟨_, _, _, rfl, rfl, rfl, rfl⟩ rfl rfl (fun w41 => run_add rfl rfl rfl (by first | omega | (simp only [lens]; omega))) ?_
               refine wat 24 3 rfl (by kernel_rfl) ⟨_, _, _, rfl, rfl, rfl, rfl⟩ rfl rfl (fun M30 N25 w42 hle33 S45 => .inl (run_indexR (C := cdInt) (i := 0) (y + 1) rfl rfl rfl sl22 S45.suf rfl (by first | rfl | omega) (by first | omega | (simp only [lens]; omega)))) ?_
               refine wat 25 2 rfl (by kernel_rfl) ⟨_, _, _, rfl, rfl, rfl, rfl⟩ rfl rfl (fun M31 N26 w43 hle34 S46 => .inl (run_load1 rfl rfl Try.underlying3 rfl (S46.suf.rowc (i := 0) (e := y + 1) (j := 0) rfl (by first | omega | (simp only [lens]; omega)) rfl rfl))) ?_
               refine wap 26 1 rfl (by kernel_rfl) ⟨_, _, _, rfl, rfl, rfl, rfl⟩ rfl rfl (fun w44 => run_lss rfl rfl rfl) ?_
               refine wap 27 0 rfl (by kernel_rfl) rfl rfl rfl (fun w45 => run_pickT rfl rfl rfl) ?_
               refine wa_end (by kernel_rfl) (fun w46 S49 => ?_)
               refine nmk [0, 1, 3, 9, 12, 14, 16, 18, 132] rfl (nm_thn ?_)
               refine ws_condN NormalIs_n112 NormalIs_n113 rfl rfl rfl rfl (fun hb132 => ?_) (fun hb132 => ?_)
               ·replace hb132 := of_decide_eq_true hb132
                exfalso; exact lw_dead (i := y) hP1 hLW (by rw [← hp1k]; have h9 : j = m := (by omega); subst h9; exact hfr) (by omega) (by rw [← hpk9]; first | exact hg121 | exact of_decide_eq_true hg121) (by first | exact hb132 | exact of_decide_eq_true hb132)
               ·replace hb132 := of_decide_eq_false hb132
                refine ws_skip rfl (nm_blk (nmk [0, 1, 3, 9, 12, 14, 16, 18] rfl (nm_thn (ws_region rfl ?_))))
                refine wlm 0 1 rfl rfl rfl rfl rfl rfl rfl (wlo 1 2 rfl rfl rfl (wo_run rfl rfl (run_add rfl rfl rfl (by first | omega | (simp only [lens]; omega))) ?_))
                refine wla 2 3 rfl rfl rfl rfl rfl rfl rfl (wl_end rfl (nm_lp ?_))
                intro ax_ hax_
                refine ⟨_, ?hq11m, ⟨y + 1, rfl, hax_.sub ⟨rfl, rfl, rfl, rfl, rfl, rfl, rfl, rfl, trivial⟩, S49.pick [0, 1] [_, _] (by decide) ⟨rfl, rfl, trivial⟩, ?hq11f0⟩⟩
                case hq11f0 => omega
                case hq11m => omega
              ·replace hg121 := of_decide_eq_false hg121
               refine wa_no (i := 17) (d := 122) 10 rfl (by kernel_rfl) (by kernel_rfl) (by kernel_rfl) ⟨_, _, _, rfl, rfl, rfl, rfl⟩ rfl rfl ?_
               refine wa_no (i := 18) (d := 123) 9 rfl (by kernel_rfl) (by kernel_rfl) (by kernel_rfl) ⟨_, _, _, rfl, rfl, rfl, rfl⟩ rfl rfl ?_
               refine wa_no (i := 19) (d := 124) 8 rfl (by kernel_rfl) (by kernel_rfl) (by kernel_rfl) ⟨_, _, _, rfl, rfl, rfl, rfl⟩ rfl rfl ?_
               refine wa_no (i := 20) (d := 125) 7 rfl (by kernel_rfl) (by kernel_rfl) (by kernel_rfl) ⟨_, _, _, rfl, rfl, rfl, rfl⟩ rfl rfl ?_
               refine wa_no (i := 21) (d := 126) 6 rfl (by kernel_rfl) (by kernel_rfl) (by kernel_rfl) ⟨_, _, _, rfl, rfl, rfl, rfl⟩ rfl rfl ?_
               refine wa_no (i := 22) (d := 127) 5 rfl (by kernel_rfl) (by kernel_rfl) (by kernel_rfl) ⟨_, _, _, rfl, rfl, rfl, rfl⟩ rfl rfl ?_
               refine wa_no (i := 23) (d := 128) 4 rfl (by kernel_rfl) (by kernel_rfl) (by kernel_rfl) ⟨_, _, _, rfl, rfl, rfl, rfl⟩ rfl rfl ?_
               refine wa_no (i := 24) (d := 129) 3 rfl (by kernel_rfl) (by kernel_rfl) (by kernel_rfl) ⟨_, _, _, rfl, rfl, rfl, rfl⟩ rfl rfl ?_
               refine wa_no (i := 25) (d := 130) 2 rfl (by kernel_rfl) (by kernel_rfl) (by kernel_rfl) ⟨_, _, _, rfl, rfl, rfl, rfl⟩ rfl rfl ?_
               refine wa_no (i := 26) (d := 131) 1 rfl (by kernel_rfl) (by kernel_rfl) (by kernel_rfl) ⟨_, _, _, rfl, rfl, rfl, rfl⟩ rfl rfl ?_
               refine wap 27 0 rfl (by kernel_rfl) rfl rfl rfl (fun w47 => run_pickF rfl rfl rfl) ?_
               refine wa_end (by kernel_rfl) (fun w48 S51 => ?_)
               refine nmk [0, 1, 3, 9, 12, 14, 16, 18, 132] rfl (nm_thn (ws_condFN NormalIs_n113 rfl rfl rfl (ws_skip rfl (nm_blk ?_))))
               refine nmk [0, 1, 3, 9, 12, 14, 16, 18] rfl (nm_thn (ws_region rfl (wlm 0 1 rfl rfl rfl rfl rfl rfl rfl (wlo 1 2 rfl rfl rfl (wo_run rfl rfl (run_add rfl rfl rfl (by first | omega | (simp only [lens]; omega))) ?_)))))
               refine wla 2 3 rfl rfl rfl rfl rfl rfl rfl (wl_end rfl (nm_lp ?_))
               intro ax_ hax_
               refine ⟨_, ?hq12m, ⟨y + 1, rfl, hax_.sub ⟨rfl, rfl, rfl, rfl, rfl, rfl, rfl, rfl, trivial⟩, S51.pick [0, 1] [_, _] (by decide) ⟨rfl, rfl, trivial⟩, ?hq12f0⟩⟩
               case hq12f0 => omega
               case hq12m => omega
             ·replace hb102 := of_decide_eq_false hb102
              refine ws_exit rfl rfl (nm_blk (nmk [0, 1, 3, 9, 12, 14] rfl (nm_thn (ws_region rfl ?_))))
              refine wlm 0 1 rfl rfl rfl rfl rfl rfl rfl (wlo 1 2 rfl rfl rfl (wo_run rfl rfl (run_add rfl rfl rfl (by first | omega | (simp only [lens]; omega))) ?_))
              refine wla 2 3 rfl rfl rfl rfl rfl rfl rfl (wl_end rfl (nm_lp ?_))
              intro ax_ hax_
              refine ⟨_, ?hq13m, ⟨k + 1, _, _, _, (hle5.trans hle6), rfl, hax_.sub ⟨rfl, rfl, rfl, rfl, rfl, rfl, trivial⟩, S20.pick [1] [_] (by decide) ⟨rfl, trivial⟩, ?hq13f0, ?hq13f1, ?hq13f2⟩⟩
              case hq13f0 => omega
              case hq13f1 => (rw [hal2, hpk9, flat_snoc _ (by omega)])
              case hq13f2 => (rw [List.length_append]; omega)
              case hq13m => omega
      ·replace hb50 := of_decide_eq_false hb50
       refine ws_exit rfl rfl (nmk [0, 1, 9] rfl (nm_thn (ws_seqN NormalIs_n114 NormalIs_n115 rfl rfl rfl ?_)))
       have hrc2 : al2 = alW m z ys := (by rw [hal2, show k = ys.length by omega, List.take_length]; rfl)
       rw [hrc2] at S13; clear hrc2
       have hall : (alW m z ys).length ≤ 600 := by have h9 : al2 = alW m z ys := (by rw [hal2, show k = ys.length by omega, List.take_length]; rfl); rw [← h9]; omega
       refine ws_region rfl (wlm 0 1 rfl rfl rfl rfl rfl rfl rfl (wlm 1 2 rfl rfl rfl rfl rfl rfl rfl (wlm 2 3 rfl rfl rfl rfl rfl rfl rfl ?_)))
       obtain ⟨A5, c5, e2, hr10⟩ := S13.lendRd (i := 0) rfl (by show _ * 8 ≤ _; first | omega | (simp only [lens]; omega))
       have hcall2 := SameActs_t m l (alW m z ys) (hl.mono S13.un_XH) hr10 (hm) ((by omega)) ((by omega)) (hwl) (hNf.nf.word.2.lok_) ((BdW.short hm hwl hl20)) ((fun k9 hk9 i9 hi9 => act_bd hm2 hm hNf.nf hwl.okW_ hl20 hNf.len hNf.z hk9 hi9)) S13.lend
       refine wlo 3 4 rfl rfl rfl (wo_ct rfl rfl rfl rfl rfl rfl rfl cf10 S13 (Ct.cast (by simp only [e2]) (hcall2)) ?_)
       intro vw49 w49 M35 hle38 S52 hRw49; clear S13
       replace hl := hl.mono (Hp.un_mono hle38 S52.mx)
       replace hps := hps.mono (Hp.un_mono hle38 S52.mx)
       replace hdps := hdps.mono (Hp.un_mono hle38 S52.mx)
       replace hr2 := hr2.mono hle38
       subst hRw49
       refine wla 4 5 rfl rfl rfl rfl rfl rfl rfl (wl_end rfl (nmk [8] rfl (nm_thn (ws_ret hC [_] rfl rfl ⟨rfl, trivial⟩ ?_))))
       refine ⟨_, rfl, _, ((hle2.trans hle3).trans hle5).trans hle38, (S52.pick [] [] (by decide) trivial), ?_⟩
       show Value.bool _ = Value.bool _
       refine congrArg Value.bool ?_
       rw [decide_eq_true_iff]
       exact act_same hwl.okW_ hNf.nf.word.2 hNf.nf.word.1.symm
end Go.Proofs.Ytomcgmialkdcbaa
namespace Go.Proofs.Ytomcgmialkdcbaa
open Go.ChangeShapes Go.WideShapes Go.ChangeAt Go.RowKit
noncomputable def BraidNormals_n0 : Code := Try.f3.body.getD .skip
noncomputable def BraidNormals_n1 : Code := cL BraidNormals_n0
noncomputable def BraidNormals_n2 : Code := cR BraidNormals_n0
noncomputable def BraidNormals_n3 : Code := cL BraidNormals_n2
noncomputable def BraidNormals_n4 : Code := cR BraidNormals_n2
noncomputable def BraidNormals_n5 : Code := cL BraidNormals_n4
noncomputable def BraidNormals_n6 : Code := cR BraidNormals_n4
noncomputable def BraidNormals_n7 : Code := cL BraidNormals_n6
noncomputable def BraidNormals_n8 : Code := cR BraidNormals_n6
noncomputable def BraidNormals_n9 : Code := cL BraidNormals_n7
noncomputable def BraidNormals_n10 : Code := cR BraidNormals_n7
noncomputable def BraidNormals_n11 : Code := cL BraidNormals_n10
noncomputable def BraidNormals_n12 : Code := cR BraidNormals_n10
noncomputable def BraidNormals_n13 : Code := cL BraidNormals_n11
noncomputable def BraidNormals_n14 : Code := cR BraidNormals_n11
noncomputable def BraidNormals_n15 : Code := cL BraidNormals_n8
noncomputable def BraidNormals_n16 : Code := cR BraidNormals_n8
set_option maxRecDepth 10000 in
theorem BraidNormals_t {w : World} {M : Hp} {X : Fr} (n : Int) (l : List Int) {lA : Option Addr} {lc : Nat} (hl : RdA cdInt M lA lc l) (S : SH w M X []) : Ct Try.prog 3 [.int .i64 n, .slice lA l.length lc] w M X (fun u _ => u = .bool true) := by
 unfold Ct
 have rmhl : l.length * 8 ≤ 140737488355328 := hl.room
 refine calls_in (b := BraidNormals_n0) Try.func3 rfl Try.ntmps3 rfl (fun C hC => (ws_sub [(0, _), (1, _)] ⟨rfl, rfl, trivial⟩ (ws_seqN BraidNormals_n1 BraidNormals_n2 rfl rfl rfl (ws_region rfl (wla 0 1 rfl rfl rfl rfl rfl rfl rfl ?_)))))
 refine wl_end rfl (nmk [0, 1] rfl (nm_thn (ws_seqN BraidNormals_n3 BraidNormals_n4 rfl rfl rfl (ws_region rfl ?_))))
 refine wlm 0 1 rfl rfl rfl rfl rfl rfl rfl (wlm 1 2 rfl rfl rfl rfl rfl rfl rfl (wlo 2 3 rfl rfl rfl (wo_ct rfl rfl rfl rfl rfl rfl rfl cf6 S (ints_t l (hl.mono (Hp.le_un _ _)) S.lend) ?_)))
 intro vw1 w1 M1 hle1 S1 hRw1; clear S
 replace hl := hl.mono hle1
 obtain ⟨A1, c1, rfl, hr1⟩ := hRw1
 refine wlo 3 4 rfl rfl rfl (wo_ct rfl rfl rfl rfl rfl rfl rfl cf5 S1 (Normal_t n l (hr1.mono (Hp.le_un _ _)) S1.lend) ?_)
 intro vw2 w2 M2 hle2 S2 hRw2; clear S1
 replace hl := hl.mono hle2
 replace hr1 := hr1.mono hle2
 obtain ⟨z, A9, c9, vs9, ys, rfl, hry, hdy, hbad, hgood⟩ := hRw2
 refine wlm 4 5 rfl rfl rfl rfl rfl rfl rfl (wlo 5 6 rfl rfl rfl (wo_run rfl rfl (run_extract rfl rfl rfl) (wlo 6 7 rfl rfl rfl (wo_run rfl rfl (run_extract rfl rfl rfl) (wlo 7 8 rfl rfl rfl (wo_run rfl rfl (run_extract rfl rfl rfl) (wla 8 9 rfl rfl rfl rfl rfl rfl rfl ?_)))))))
 refine wla 9 10 rfl rfl rfl rfl rfl rfl rfl (wla 10 11 rfl rfl rfl rfl rfl rfl rfl (wl_end rfl (nmk [0, 1, 5, 6, 7] rfl (nm_thn ?_))))
 refine ws_seqN BraidNormals_n5 BraidNormals_n6 rfl rfl rfl (ws_region rfl (wlm 0 1 rfl rfl rfl rfl rfl rfl rfl (wlm 1 2 rfl rfl rfl rfl rfl rfl rfl (wlo 2 3 rfl rfl rfl (wo_cq rfl rfl rfl rfl rfl rfl rfl cf7 S2 (WordsMay_q n l [] (hl.mono (Hp.le_un _ _)) RdA.nil_ ((by simp only [List.length_nil]; omega)) S2.lend) ?_)))))
 rintro _ w3 S3 rfl; clear S2
 refine wla 3 4 rfl rfl rfl rfl rfl rfl rfl (wl_end rfl (nmk [0, 1, 5, 6, 7, 8] rfl (nm_thn (ws_seqN BraidNormals_n7 BraidNormals_n8 rfl rfl rfl ?_))))
 refine ws_seqN BraidNormals_n9 BraidNormals_n10 rfl rfl rfl (ws_region rfl (wlm 0 1 rfl rfl rfl rfl rfl rfl rfl (wlo 1 2 rfl rfl rfl (wo_run rfl rfl (run_neq rfl rfl rfl) (wl_end rfl ?_)))))
 refine nmk [0, 1, 5, 6, 7, 8, 21] rfl (nm_thn ?_)
 refine ws_condN BraidNormals_n11 BraidNormals_n12 rfl rfl rfl rfl (fun hb21 => ?_) (fun hb21 => ?_)
 ·replace hb21 := of_decide_eq_true hb21
  have hmc := mayI_check n l
  obtain ⟨hz0, hy0⟩ := hbad (by omega)
  have hv9 := hdy.1
  rw [hy0] at hv9
  have hv0 : vs9.length = 0 := hv9
  refine ws_seqN BraidNormals_n13 BraidNormals_n14 rfl rfl rfl (ws_region rfl (wlm 0 1 rfl rfl rfl rfl rfl rfl rfl (wlm 1 2 rfl rfl rfl rfl rfl rfl rfl (wlo 2 3 rfl rfl rfl (wo_run rfl rfl (run_eql rfl rfl rfl) ?_)))))
  refine wlm 3 4 rfl rfl rfl rfl rfl rfl rfl ?_
  refine wl_split (t := 25) rfl (fun hg25 => ?_) (fun hg25 => ?_)
  ·replace hg25 := of_decide_eq_true hg25
   refine wlg 4 5 rfl rfl rfl rfl rfl rfl rfl rfl (wo_run rfl rfl (run_move rfl rfl) (wlg 5 6 rfl rfl rfl rfl rfl rfl rfl rfl (wo_run rfl rfl (run_eql rfl rfl rfl) (wlo 6 7 rfl rfl rfl (wo_run rfl rfl (run_pickT rfl rfl rfl) (wlm 7 8 rfl rfl rfl rfl rfl rfl rfl ?_))))))
   refine wl_split (t := 29) rfl (fun hg29 => ?_) (fun hg29 => ?_)
   ·replace hg29 := of_decide_eq_true hg29
    refine wlg 8 9 rfl rfl rfl rfl rfl rfl rfl rfl (wo_run rfl rfl (run_move rfl rfl) (wlg 9 10 rfl rfl rfl rfl rfl rfl rfl rfl (wo_run rfl rfl (run_len rfl rfl rfl rfl rfl rfl Try.underlying23) (wlg 10 11 rfl rfl rfl rfl rfl rfl rfl rfl (wo_run rfl rfl (run_eql rfl rfl rfl) (wlo 11 12 rfl rfl rfl (wo_run rfl rfl (run_pickT rfl rfl rfl) (wla 12 13 rfl rfl rfl rfl rfl rfl rfl ?_))))))))
    refine wl_end rfl (nmk [4] rfl (nm_thn (ws_ret hC [_] rfl rfl ⟨rfl, trivial⟩ ?_)))
    refine ⟨_, rfl, _, hle1.trans hle2, (S3.pick [] [] (by decide) trivial), ?_⟩
    show Value.bool _ = _
    refine congrArg Value.bool ?_
    rw [decide_eq_true_iff]
    omega
   ·replace hg29 := of_decide_eq_false hg29
    exfalso; omega
  ·replace hg25 := of_decide_eq_false hg25
   exfalso; omega
 ·replace hb21 := of_decide_eq_false hb21
  have hmc := mayI_check n l
  have hck : checkI n [l] = 0 := by omega
  obtain ⟨hn2, hn6, hwl, hwb⟩ := check_ok hck
  obtain ⟨m, hnm⟩ : ∃ m : Nat, n = (m : Int) := ⟨n.toNat, by omega⟩
  have hwb9 : lok m l := fun i hi => by rw [← hnm]; exact hwb i hi
  have hNf := hgood hck
  rw [hnm, Int.toNat_natCast] at hNf
  have hm : m ≤ 6 := by omega
  have hn1 : 2 ≤ m := by omega
  have hzz := hNf.z
  have hyl := hNf.len
  have hv9 := hdy.1
  rw [List.length_map] at hv9
  refine ws_skip rfl (nmk [0, 1, 5, 6, 7] rfl (nm_thn (ws_seqN BraidNormals_n15 BraidNormals_n16 rfl rfl rfl (ws_eq 0 (.int .i64 (m : Int)) rfl (int_eq hnm) ?_))))
  refine ws_region rfl (wlm 0 1 rfl rfl rfl rfl rfl rfl rfl (wlo 1 2 rfl rfl rfl (wo_run rfl rfl (run_eql rfl rfl rfl) (wlm 2 3 rfl rfl rfl rfl rfl rfl rfl ?_))))
  refine wl_split (t := 36) rfl (fun hg36 => ?_) (fun hg36 => ?_)
  ·replace hg36 := of_decide_eq_true hg36
   refine wlg 3 4 rfl rfl rfl rfl rfl rfl rfl rfl (wo_run rfl rfl (run_move rfl rfl) (wlg 4 5 rfl rfl rfl rfl rfl rfl rfl rfl (wo_run rfl rfl (run_geq rfl rfl rfl) (wlo 5 6 rfl rfl rfl (wo_run rfl rfl (run_pickT rfl rfl rfl) (wlm 6 7 rfl rfl rfl rfl rfl rfl rfl ?_))))))
   refine wl_split (t := 40) rfl (fun hg40 => ?_) (fun hg40 => ?_)
   ·replace hg40 := of_decide_eq_true hg40
    refine wlg 7 8 rfl rfl rfl rfl rfl rfl rfl rfl (wo_run rfl rfl (run_move rfl rfl) (wlg 8 9 rfl rfl rfl rfl rfl rfl rfl rfl (wo_run rfl rfl (run_leq rfl rfl rfl) (wlo 9 10 rfl rfl rfl (wo_run rfl rfl (run_pickT rfl rfl rfl) (wlm 10 11 rfl rfl rfl rfl rfl rfl rfl ?_))))))
    refine wl_split (t := 44) rfl (fun hg44 => ?_) (fun hg44 => ?_)
    ·replace hg44 := of_decide_eq_true hg44
     refine wlg 11 12 rfl rfl rfl rfl rfl rfl rfl rfl (wo_run rfl rfl (run_move rfl rfl) (wlg 12 13 rfl rfl rfl rfl rfl rfl rfl rfl (wo_run rfl rfl (run_len rfl rfl rfl rfl rfl rfl Try.underlying23) (wlg 13 14 rfl rfl rfl rfl rfl rfl rfl rfl (wo_run rfl rfl (run_leq rfl rfl rfl) (wlo 14 15 rfl rfl rfl (wo_run rfl rfl (run_pickT rfl rfl rfl) (wlm 15 16 rfl rfl rfl rfl rfl rfl rfl ?_))))))))
     refine wl_split (t := 49) rfl (fun hg49 => ?_) (fun hg49 => ?_)
     ·replace hg49 := of_decide_eq_true hg49
      refine wlg 16 17 rfl rfl rfl rfl rfl rfl rfl rfl (wo_run rfl rfl (run_move rfl rfl) (wlg 17 18 rfl rfl rfl rfl rfl rfl rfl rfl (wo_run rfl rfl (run_move rfl rfl) (wlg 18 19 rfl rfl rfl rfl rfl rfl rfl rfl (wo_run rfl rfl (run_move rfl rfl) (wlg 19 20 rfl rfl rfl rfl rfl rfl rfl rfl (wo_run rfl rfl (run_move rfl rfl) (wlg 20 21 rfl rfl rfl rfl rfl rfl rfl rfl (wo_ct rfl rfl rfl rfl rfl rfl rfl cf8 S3 (NormalIs_t m l z _ (hl.mono (Hp.le_un _ _)) (hry.mono (Hp.le_un _ _)) (hdy.mono (Hp.le_un _ _)) hn1 hm hwl hwb9 hNf rfl S3.lend) ?_)))))))))
      intro vw4 w4 M3 hle3 S4 hRw4; clear S3
      replace hl := hl.mono hle3
      replace hr1 := hr1.mono hle3
      replace hry := hry.mono hle3
      replace hdy := hdy.mono hle3
      subst hRw4
      refine wlo 21 22 rfl rfl rfl (wo_run rfl rfl (run_pickT rfl rfl rfl) (wla 22 23 rfl rfl rfl rfl rfl rfl rfl (wl_end rfl (nmk [4] rfl (nm_thn ?_)))))
      refine ws_ret hC [_] rfl rfl ⟨rfl, trivial⟩ ?_
      refine ⟨_, rfl, _, (hle1.trans hle2).trans hle3, (S4.pick [] [] (by decide) trivial), ?_⟩
      show Value.bool _ = _
      rfl
     ·replace hg49 := of_decide_eq_false hg49
      exfalso; omega
    ·replace hg44 := of_decide_eq_false hg44
     exfalso; omega
   ·replace hg40 := of_decide_eq_false hg40
    exfalso; omega
  ·replace hg36 := of_decide_eq_false hg36
   exfalso; omega
end Go.Proofs.Ytomcgmialkdcbaa
namespace Go.Proofs.Ytomcgmialkdcbaa
open Go.ChangeShapes Go.WideShapes Go.ChangeAt Go.RowKit Go.Joins Go.Deep
theorem weightsAll_mem {H : Type} {P : Program} {e : TypeId} {d : DataW H} {n : Nat} : ∀ {ds : List (DataW H)}, d ∈ ds → n ∈ d.weights P e → n ∈ DataW.weightsAll P e ds
  | d0 :: ds, hd, hn => by
    simp only [DataW.weightsAll, List.mem_append]
    rcases List.mem_cons.1 hd with rfl | hd
    · exact .inl hn
    · exact .inr (weightsAll_mem hd hn)
def Light {H : Type} (P : Program) (T : TypeId) (d : DataW H) : Prop := ∀ n ∈ d.weights P T, n ≤ reachBytes
/-- What is read of type T is one x of C, of which ok is true. -/
def Rdr {H : Type} (P : Program) (w : World) (enc : TypeId × Value → H) (T : TypeId) {α : Type} (C : Cd α) (ok : α → Prop) : Prop :=
  ∀ n cs d pl, DataW.trod enc P w 0 (fun _ => true) true n T cs = some (d, pl) → Light P T d → ∃ x, (∀ j u, j < C.k → (C.f x)[j]? = some u → cs[j]? = some u) ∧ ok x
def wfI (x : Int) : Prop := -9223372036854775808 ≤ x ∧ x ≤ 9223372036854775807
theorem wfI_of {x : Int} (h : (Lit.int .i64 x).wf = true) : wfI x := by
  simpa [Lit.wf, IntKind.min, IntKind.max, IntKind.signed, IntKind.bits, wfI] using h
def SlOk {α : Type} (C : Cd α) (w : World) (ok : α → Prop) (s : SlV) : Prop := ∃ ys : List α, s.n = ys.length ∧ RdA C (hp w) s.A s.c ys ∧ ∀ y ∈ ys, ok y
section
variable {H : Type} {enc : TypeId × Value → H} {P : Program} {w : World} {T : TypeId}
theorem rdr_int (hu : P.underlying T = some (.int .i64)) : Rdr P w enc T cdInt wfI := fun n cs d pl h _ => by
  obtain ⟨a, rfl, _, hw⟩ := DataW.trod_int hu h
  exact ⟨a, fun j u _ hu => hu, wfI_of hw⟩
theorem rdr_slice {α : Type} [Inhabited α] {C : Cd α} {ok : α → Prop} (hu : P.underlying T = some (.slice C.E)) (hk : P.cellsOf C.E = C.k) (hb : P.bytesOf C.E = C.u8) (hk0 : 0 < C.k) (hr : Rdr P w enc C.E C ok) : Rdr P w enc T (cdV T) (SlOk C w ok) := fun n cs d pl h hl => by
  rcases open_slice hu h with ⟨rfl, hx⟩ | ⟨a, len, cap, m, n', D, Pl, rfl, _, hle, hm, hmm, hx, hi⟩
  · exact ⟨⟨none, 0, 0⟩, fun j u _ hu => hu, [], rfl, RdA.nil_, fun y hy => by cases hy⟩
  · simp only [if_true] at hmm
    subst hmm
    simp only [Prod.mk.injEq] at hx
    obtain ⟨rfl, _⟩ := hx
    have hwt : ∀ n ∈ (len + (m - len)) * P.bytesOf C.E :: (DataW.weightsAll P C.E ((List.range len).map D) ++ DataW.weightsAll P C.E ((List.range (m - len)).map fun j => D (len + j))), n ≤ reachBytes := by
      have := hl
      unfold Light at this
      simp only [DataW.weights, hu, List.length_map, List.length_range] at this
      exact this
    have hsz := hwt _ (List.mem_cons_self ..)
    rw [hb] at hsz
    simp only [reachBytes] at hsz
    have hL : len * C.u8 ≤ 140737488355328 := Nat.le_trans (Nat.mul_le_mul_right _ (show len ≤ len + (m - len) by omega)) (by omega)
    obtain ⟨F, hF⟩ := choose_lt (α := α) (n := len) (p := fun i x => (∀ j u, j < C.k → (C.f x)[j]? = some u → w.cell? (a.add (i * C.k + j)) = some u) ∧ ok x) (fun i hil => by
      obtain ⟨cs', hc, ht⟩ := hi i (by omega)
      rw [hk] at hc
      obtain ⟨x, hx, hok⟩ := hr n' cs' (D i) (Pl i) ht (fun q hq => hwt q (List.mem_cons_of_mem _ (List.mem_append_left _ (weightsAll_mem (List.mem_map.2 ⟨i, List.mem_range.2 hil, rfl⟩) hq))))
      obtain ⟨_, hcl, hat⟩ := World.cells?_some hc
      refine ⟨x, fun j u hj hu => ?_, hok⟩
      rw [← Go.Deep.add_add, hat j hj]
      exact hx j u hj hu)
    have hlen : ((List.range len).map F).length = len := by simp
    refine ⟨⟨some a, len, m⟩, fun j u _ hu => hu, (List.range len).map F, by rw [hlen], ⟨by rw [hlen]; exact hle, by rw [hlen]; exact hL, fun h0 => ?_⟩, fun y hy => ?_⟩
    · rw [hlen] at h0
      have hcell : ∀ j u, (((List.range len).map F).flatMap C.f)[j]? = some u → w.cell? (a.add j) = some u := fun j u hju => by
        have hjl : j < len * C.k := by
          have := (List.getElem?_eq_some_iff.1 hju).1
          rwa [flat_len C.hf, hlen] at this
        have h1 : j / C.k < len := (Nat.div_lt_iff_lt_mul hk0).2 hjl
        have h2 : j % C.k < C.k := Nat.mod_lt _ hk0
        have em : j / C.k * C.k + j % C.k = j := by rw [Nat.mul_comm]; exact Nat.div_add_mod j C.k
        have g1 := flat_get C.hf (xs := (List.range len).map F) (i := j / C.k) (by rw [hlen]; exact h1) h2
        rw [em, hju] at g1
        have := (hF (j / C.k) h1).1 (j % C.k) u h2 (by rw [g1]; simp)
        rwa [em] at this
      have hlen0 : 0 < (((List.range len).map F).flatMap C.f).length := by rw [flat_len C.hf, hlen]; exact Nat.mul_pos h0 hk0
      have hc0 := hcell 0 _ (List.getElem?_eq_getElem hlen0)
      obtain ⟨b, off, spot⟩ := a
      have hspot : spot = none := by simpa [Addr.add] using World.cell?_spot hc0
      subst hspot
      refine ⟨rfl, ?_⟩
      have hadd : ∀ j, (⟨b, off, none⟩ : Addr).add j = ⟨b, off + j, none⟩ := fun j => by
        unfold Addr.add
        split
        · rename_i e; rw [e]; rfl
        · rfl
      rw [hadd] at hc0
      unfold World.cell? at hc0
      split at hc0
      · rename_i cs T' fz hb'
        refine ⟨cs, T', fz, hb', fun j u hju => ?_⟩
        have := hcell j u hju
        rw [hadd, cell_of_row w b _ cs T' fz hb'] at this
        exact this
      · cases hc0
    · obtain ⟨i, hi', rfl⟩ := List.mem_map.1 hy
      exact (hF i (List.mem_range.1 hi')).2
theorem open_sl {α : Type} [Inhabited α] {C : Cd α} {ok : α → Prop} {v : Value} {d : DataW H} {p : List MemPlace} (hu : P.underlying T = some (.slice C.E)) (hk : P.cellsOf C.E = C.k) (hb : P.bytesOf C.E = C.u8) (hk0 : 0 < C.k) (hr : Rdr P w enc C.E C ok)
    {b0 : Nat} (hv : Value.okWide P w .any b0 T v) (h : DataW.Trod enc P w 0 (fun _ => true) true T v d p) {ts : List TypeId} {ds : List (DataW H)} (hsz : (DataW.weightsEach P ts ds).all (· ≤ reachBytes) = true) {j : Nat} (hj : ts[j]? = some T) (hd : ds[j]? = some d) :
    ∃ A c xs, v = .slice A xs.length c ∧ RdA C (hp w) A c xs ∧ ∀ x ∈ xs, ok x := by
  obtain ⟨a0, len, cap, rfl⟩ := okWide_slice hu hv
  obtain ⟨fuel, hf⟩ := h
  have hl : Light P T d := fun n hn => by simpa using List.all_eq_true.1 hsz n (DataW.weights_mem_each hj hd n hn)
  obtain ⟨s, hs, ys, hn, hr, hy⟩ := rdr_slice hu hk hb hk0 hr fuel _ d p hf hl
  have := hs 0 _ Nat.one_pos rfl
  simp only [Value.cells] at this
  have e : (Value.slice a0 len cap) = .slice s.A s.n s.c := by simpa using this
  exact ⟨s.A, s.c, ys, by rw [e, hn], hr, hy⟩
end
end Go.Proofs.Ytomcgmialkdcbaa
namespace Go.Proofs.Ytomcgmialkdcbaa
open Go.ChangeShapes Go.WideShapes Go.ChangeAt Go.RowKit
theorem lawBraidNormals (x0 : Int) (x1 : List Int) {A1 : Option Addr} {c1 : Nat} (W : World) (h1 : RdA cdInt (hp W) A1 c1 x1) :
    Calls Try.prog 3 #[.int .i64 x0, .slice A1 x1.length c1] W fun e W' => e = .returned (.bool true) ∧ Below W.heap.size W W' := by
  exact law_of_ct (BraidNormals_t x0 x1 h1 (SH.start W))
set_option maxRecDepth 100000 in
theorem braidNormals_lifted (os : Os) (started : os.Started) (H : Type) (enc : TypeId × Value → H) :
    ReturnsInHanded {} Try.checked os 3 .any (Rows.braidNormalsSpec.pre6 enc Try.prog Try.f3 Rows.braidNormalsRow.domain false) (Rows.braidNormalsSpec.post enc Try.prog Try.f3 false true false false) := by
  refine law_lift (C := Try.checked) (tb := 4) (by kernel_rfl) started (by kernel_rfl) Try.func3
    (ChangeSpec.witness6 (enc := enc) (C := Try.checked) false ⟨#[], #[.int .i64 0, .slice none 0 0], []⟩ 8 (by kernel_rfl) (by kernel_rfl) (by kernel_rfl) (by kernel_rfl))
    rfl (by kernel_rfl) (by kernel_rfl) rfl Try.underlying4 ?_ ?_
  · intro ds hds
    match ds, hds with
    | [d0, d1], _ => rfl
  · intro W base args ds p hval hA _ hlt hsz
    rw [Try.params3] at hA hval hsz
    obtain ⟨v0, vs0, d0, ds0, p0, q0, hargs, rfl, rfl, h0, r0⟩ := trodAll_cons hA
    obtain ⟨v1, vs1, d1, ds1, p1, q1, rfl, rfl, rfl, h1, r1⟩ := trodAll_cons r0
    obtain ⟨rfl, rfl, rfl⟩ := trodAll_nil r1
    obtain rfl : args = #[v0, v1] := by cases args; simp_all
    obtain ⟨a0, rfl, rfl, rfl, w0⟩ := open_int Try.underlying3 (hval 0 3 v0 rfl rfl) h0
    obtain ⟨A1, c1, xs1, rfl, g1, _⟩ := open_sl (C := cdInt) Try.underlying22 (by kernel_rfl) (by kernel_rfl) (by decide) (rdr_int Try.underlying3) (hval 1 22 v1 rfl rfl) h1 hsz (j := 1) rfl rfl
    exact lawBraidNormals a0 xs1 W g1
theorem braidNormals_holds : Rows.BraidNormalsSaid :=
  OpenClaim.holds_of_wide 3 Try.f3 rfl rfl rfl rfl rfl rfl rfl ⟨rfl, rfl, rfl, rfl, rfl⟩ rfl rfl rfl rfl rfl (by kernel_rfl) Try.func3 (by kernel_rfl)
    (of_decide_eq_true (by kernel_rfl)) (by unfold Func.isWrapper; first | (rw [if_pos (by decide +kernel)]; kernel_rfl) | (rw [if_neg (by decide +kernel)]; exact ⟨rfl, rfl⟩))
    (fun os started H enc _ => braidNormals_lifted os started H enc)
#print axioms braidNormals_holds
end Go.Proofs.Ytomcgmialkdcbaa
