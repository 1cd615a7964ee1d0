/- Part 10 of the proof of the law SignShades: the walks through its functions and the plain laws that they need. -/
import Derived.Test.YthppkofceancjaaShZ9
import Derived.Lib.SmallJoins
import Derived.Deep.Slices
import Derived.Deep.Fields
import Derived.ChangeSame
set_option linter.unusedSimpArgs false
set_option linter.unusedVariables false
namespace Go.Proofs.Ythppkofceancjaa
open Go.ChangeShapes Go.WideShapes Go.ChangeAt Go.RowKit
noncomputable def sameInts_n0 : Code := Try.f8.body.getD .skip
noncomputable def sameInts_n1 : Code := cL sameInts_n0
noncomputable def sameInts_n2 : Code := cR sameInts_n0
noncomputable def sameInts_n3 : Code := cL sameInts_n2
noncomputable def sameInts_n4 : Code := cR sameInts_n2
noncomputable def sameInts_n5 : Code := cL sameInts_n3
noncomputable def sameInts_n6 : Code := cR sameInts_n3
noncomputable def sameInts_n7 : Code := cL sameInts_n6
noncomputable def sameInts_n8 : Code := cR sameInts_n6
noncomputable def sameInts_n9 : Code := cL sameInts_n4
noncomputable def sameInts_n10 : Code := cR sameInts_n4
noncomputable def sameInts_n11 : Code := cL sameInts_n9
noncomputable def sameInts_n12 : Code := cR sameInts_n9
noncomputable def sameInts_n13 : Code := cL sameInts_n12
noncomputable def sameInts_n14 : Code := cL sameInts_n13
noncomputable def sameInts_n15 : Code := cL sameInts_n14
noncomputable def sameInts_n16 : Code := cR sameInts_n14
noncomputable def sameInts_n17 : Code := cL sameInts_n15
noncomputable def sameInts_n18 : Code := cR sameInts_n15
noncomputable def sameInts_n19 : Code := cL sameInts_n18
noncomputable def sameInts_n20 : Code := cR sameInts_n18
noncomputable def sameInts_n21 : Code := cL sameInts_n16
noncomputable def sameInts_n22 : Code := cR sameInts_n16
noncomputable def sameInts_n23 : Code := cL sameInts_n21
noncomputable def sameInts_n24 : Code := cL sameInts_n23
noncomputable def sameInts_n25 : Code := cR sameInts_n23
noncomputable def sameInts_n26 : Code := cL sameInts_n25
noncomputable def sameInts_n27 : Code := cR sameInts_n25
noncomputable def sameInts_n28 : Code := cL sameInts_n10
noncomputable def sameInts_n29 : Code := cR sameInts_n10
set_option maxRecDepth 10000 in
theorem sameInts_q {w : World} {M : Hp} {X : Fr} (p : List Int) {pA : Option Addr} {pc : Nat} (q : List Int) {qA : Option Addr} {qc : Nat} (hp : RdA cdInt (M.un X.h) pA pc p) (hq : RdA cdInt (M.un X.h) qA qc q) (he : p = q) (S : SH w M X []) : Cq Try.prog 8 [.slice pA p.length pc, .slice qA q.length qc] w M X (fun u => u = .bool true) := by
 unfold Cq
 have rmhp : p.length * 8 ≤ 140737488355328 := hp.room
 have rmhq : q.length * 8 ≤ 140737488355328 := hq.room
 have hle : p.length = q.length := by rw [he]
 refine calls_in (b := sameInts_n0) Try.func8 rfl Try.ntmps8 rfl (fun C hC => (ws_sub [(0, _), (1, _)] ⟨rfl, rfl, trivial⟩ (ws_seqN sameInts_n1 sameInts_n2 rfl rfl rfl (ws_region rfl (wla 0 1 rfl rfl rfl rfl rfl rfl rfl ?_)))))
 refine wl_end rfl (nmk [0, 1] rfl (nm_thn (ws_seqN sameInts_n3 sameInts_n4 rfl rfl rfl (ws_seqN sameInts_n5 sameInts_n6 rfl rfl rfl ?_))))
 refine ws_region rfl (wlm 0 1 rfl rfl rfl rfl rfl rfl rfl (wlo 1 2 rfl rfl rfl (wo_run rfl rfl (run_len rfl rfl rfl rfl rfl rfl Try.underlying25) (wlm 2 3 rfl rfl rfl rfl rfl rfl rfl (wlo 3 4 rfl rfl rfl (wo_run rfl rfl (run_len rfl rfl rfl rfl rfl rfl Try.underlying25) ?_))))))
 refine wlo 4 5 rfl rfl rfl (wo_run rfl rfl (run_neq rfl rfl rfl) (wl_end rfl (nmk [0, 1, 10] rfl (nm_thn ?_))))
 refine ws_condN sameInts_n7 sameInts_n8 rfl rfl rfl rfl (fun hb10 => ?_) (fun hb10 => ?_)
 ·replace hb10 := of_decide_eq_true hb10
  exfalso; omega
 ·replace hb10 := of_decide_eq_false hb10
  refine ws_skip rfl (nmk [0, 1] rfl (nm_thn (ws_seqN sameInts_n9 sameInts_n10 rfl rfl rfl (ws_seqN sameInts_n11 sameInts_n12 rfl rfl rfl ?_))))
  refine ws_region rfl (wla 0 1 rfl rfl rfl rfl rfl rfl rfl (wl_end rfl (nm_thn (ws_blockN sameInts_n13 0 rfl rfl rfl ?_))))
  refine ws_loopE (fun mx_ ax_ wx_ => ∃ (k : Nat), mx_ = p.length - k ∧ Env 26 [(0, .slice pA p.length pc), (1, .slice qA q.length qc), (5, .int .i64 (k : Int))] ax_ ∧ SH wx_ M X [] ∧ k ≤ p.length) rfl ?_ ?_
  ·intro ax_ hax_
   refine ⟨_, ⟨0, rfl, hax_.sub ⟨rfl, rfl, rfl, trivial⟩, S.pick [] [] (by decide) trivial, ?hq1f0⟩⟩
   case hq1f0 => omega
  ·rintro m1 a1 w1 ⟨k, rfl, he1, S1, hk⟩
   clear S
   refine ws_in he1 (c := sameInts_n14) rfl ?_
   clear he1 a1
   refine ws_seqN sameInts_n15 sameInts_n16 rfl rfl rfl (ws_seqN sameInts_n17 sameInts_n18 rfl rfl rfl (ws_region rfl (wlm 0 1 rfl rfl rfl rfl rfl rfl rfl (wlm 1 2 rfl rfl rfl rfl rfl rfl rfl ?_))))
   refine wlo 2 3 rfl rfl rfl (wo_run rfl rfl (run_len rfl rfl rfl rfl rfl rfl Try.underlying25) (wlo 3 4 rfl rfl rfl (wo_run rfl rfl (run_lss rfl rfl rfl) (wl_end rfl (nmk [0, 1, 5, 14] rfl (nm_thn ?_))))))
   refine ws_condN sameInts_n19 sameInts_n20 rfl rfl rfl rfl (fun hb14 => ?_) (fun hb14 => ?_)
   ·replace hb14 := of_decide_eq_true hb14
    refine ws_skip rfl (nmk [0, 1, 5] rfl (nm_thn (ws_seqN sameInts_n21 sameInts_n22 rfl rfl rfl (ws_blockN sameInts_n23 1 rfl rfl rfl ?_))))
    refine ws_seqN sameInts_n24 sameInts_n25 rfl rfl rfl (ws_draw rfl (by kernel_rfl) S1 9 rfl ?_)
    clear S1
    refine wap 0 8 rfl (by kernel_rfl) rfl rfl rfl (fun w2 => run_move rfl rfl) ?_
    refine wap 1 7 rfl (by kernel_rfl) rfl rfl rfl (fun w3 => run_move rfl rfl) ?_
    refine wat 2 6 rfl (by kernel_rfl) rfl rfl rfl (fun M3 N3 w4 hle4 S4 => .inl (run_indexM (C := cdInt) k rfl rfl rfl sl25 (by first | rfl | omega) (hp.mono (Hp.un_mono hle4 S4.mx)) (by first | omega | (simp only [lens]; omega)))) ?_
    refine wat 3 5 rfl (by kernel_rfl) rfl rfl rfl (fun M4 N4 w5 hle5 S5 => .inl (run_load1 rfl rfl Try.underlying3 rfl ((hp.mono (Hp.un_mono hle5 S5.mx)).cell S5.um (i := k) (by first | omega | (simp only [lens]; omega)) 0 rfl rfl))) ?_
    refine wap 4 4 rfl (by kernel_rfl) rfl rfl rfl (fun w6 => run_move rfl rfl) ?_
    refine wap 5 3 rfl (by kernel_rfl) rfl rfl rfl (fun w7 => run_move rfl rfl) ?_
    refine wat 6 2 rfl (by kernel_rfl) rfl rfl rfl (fun M7 N7 w8 hle8 S8 => .inl (run_indexM (C := cdInt) k rfl rfl rfl sl25 (by first | rfl | omega) (hq.mono (Hp.un_mono hle8 S8.mx)) (by first | omega | (simp only [lens]; omega)))) ?_
    refine wat 7 1 rfl (by kernel_rfl) rfl rfl rfl (fun M8 N8 w9 hle9 S9 => .inl (run_load1 rfl rfl Try.underlying3 rfl ((hq.mono (Hp.un_mono hle9 S9.mx)).cell S9.um (i := k) (by first | omega | (simp only [lens]; omega)) 0 rfl rfl))) ?_
    refine wap 8 0 rfl (by kernel_rfl) rfl rfl rfl (fun w10 => run_neq rfl rfl rfl) ?_
    refine wa_end (by kernel_rfl) (fun w11 S11 => ?_)
    refine nmk [0, 1, 5, 25] rfl (nm_thn ?_)
    refine ws_condN sameInts_n26 sameInts_n27 rfl rfl rfl rfl (fun hb25 => ?_) (fun hb25 => ?_)
    ·replace hb25 := of_decide_eq_true hb25
     exfalso; exact hb25 (by rw [he])
    ·replace hb25 := of_decide_eq_false hb25
     refine ws_skip rfl (nm_blk (nmk [0, 1, 5] rfl (nm_thn (ws_region rfl ?_))))
     refine wlm 0 1 rfl rfl rfl rfl rfl rfl rfl (wlo 1 2 rfl rfl rfl (wo_run rfl rfl (run_add rfl rfl rfl (by first | omega | (simp only [lens]; omega))) ?_))
     refine wla 2 3 rfl rfl rfl rfl rfl rfl rfl (wl_end rfl (nm_lp ?_))
     intro ax_ hax_
     refine ⟨_, ?hq2m, ⟨k + 1, rfl, hax_.sub ⟨rfl, rfl, rfl, trivial⟩, S11.pick [] [] (by decide) trivial, ?hq2f0⟩⟩
     case hq2f0 => omega
     case hq2m => omega
   ·replace hb14 := of_decide_eq_false hb14
    refine ws_exit rfl rfl (nm_sub [] trivial (nm_thn (ws_seqN sameInts_n28 sameInts_n29 rfl rfl rfl (ws_region rfl ?_))))
    refine wla 0 1 rfl rfl rfl rfl rfl rfl rfl (wl_end rfl (nm_thn (ws_ret hC [_] rfl rfl ⟨rfl, trivial⟩ ?_)))
    exact ⟨_, rfl, (S1.pick [] [] (by decide) trivial), rfl⟩
noncomputable def sameTables_n0 : Code := Try.f11.body.getD .skip
noncomputable def sameTables_n1 : Code := cL sameTables_n0
noncomputable def sameTables_n2 : Code := cR sameTables_n0
noncomputable def sameTables_n3 : Code := cL sameTables_n2
noncomputable def sameTables_n4 : Code := cR sameTables_n2
noncomputable def sameTables_n5 : Code := cL sameTables_n3
noncomputable def sameTables_n6 : Code := cR sameTables_n3
noncomputable def sameTables_n7 : Code := cL sameTables_n6
noncomputable def sameTables_n8 : Code := cR sameTables_n6
noncomputable def sameTables_n9 : Code := cL sameTables_n4
noncomputable def sameTables_n10 : Code := cR sameTables_n4
noncomputable def sameTables_n11 : Code := cL sameTables_n9
noncomputable def sameTables_n12 : Code := cR sameTables_n9
noncomputable def sameTables_n13 : Code := cL sameTables_n12
noncomputable def sameTables_n14 : Code := cL sameTables_n13
noncomputable def sameTables_n15 : Code := cL sameTables_n14
noncomputable def sameTables_n16 : Code := cR sameTables_n14
noncomputable def sameTables_n17 : Code := cL sameTables_n15
noncomputable def sameTables_n18 : Code := cR sameTables_n15
noncomputable def sameTables_n19 : Code := cL sameTables_n18
noncomputable def sameTables_n20 : Code := cR sameTables_n18
noncomputable def sameTables_n21 : Code := cL sameTables_n16
noncomputable def sameTables_n22 : Code := cR sameTables_n16
noncomputable def sameTables_n23 : Code := cL sameTables_n21
noncomputable def sameTables_n24 : Code := cL sameTables_n23
noncomputable def sameTables_n25 : Code := cR sameTables_n23
noncomputable def sameTables_n27 : Code := cR sameTables_n25
noncomputable def sameTables_n28 : Code := cL sameTables_n10
noncomputable def sameTables_n29 : Code := cR sameTables_n10
set_option maxRecDepth 10000 in
theorem sameTables_q {w : World} {M : Hp} {X : Fr} (p : List (List Int)) {pA : Option Addr} {pc : Nat} {pv : List SlV} (q : List (List Int)) {qA : Option Addr} {qc : Nat} {qv : List SlV} (hp : RdA (cdV 25) (M.un X.h) pA pc pv) (hdp : Rd2 cdInt (M.un X.h) pv p) (hq : RdA (cdV 25) (M.un X.h) qA qc qv) (hdq : Rd2 cdInt (M.un X.h) qv q) (he : p = q) (S : SH w M X []) : Cq Try.prog 11 [.slice pA pv.length pc, .slice qA qv.length qc] w M X (fun u => u = .bool true) := by
 unfold Cq
 have rmhp : pv.length * 24 ≤ 140737488355328 := hp.room
 have rmhq : qv.length * 24 ≤ 140737488355328 := hq.room
 have hle : p.length = q.length := by rw [he]
 have hlp := hdp.1
 have hlq := hdq.1
 refine calls_in (b := sameTables_n0) Try.func11 rfl Try.ntmps11 rfl (fun C hC => (ws_sub [(0, _), (1, _)] ⟨rfl, rfl, trivial⟩ (ws_seqN sameTables_n1 sameTables_n2 rfl rfl rfl (ws_region rfl (wla 0 1 rfl rfl rfl rfl rfl rfl rfl ?_)))))
 refine wl_end rfl (nmk [0, 1] rfl (nm_thn (ws_seqN sameTables_n3 sameTables_n4 rfl rfl rfl (ws_seqN sameTables_n5 sameTables_n6 rfl rfl rfl ?_))))
 refine ws_region rfl (wlm 0 1 rfl rfl rfl rfl rfl rfl rfl (wlo 1 2 rfl rfl rfl (wo_run rfl rfl (run_len rfl rfl rfl rfl rfl rfl Try.underlying30) (wlm 2 3 rfl rfl rfl rfl rfl rfl rfl (wlo 3 4 rfl rfl rfl (wo_run rfl rfl (run_len rfl rfl rfl rfl rfl rfl Try.underlying30) ?_))))))
 refine wlo 4 5 rfl rfl rfl (wo_run rfl rfl (run_neq rfl rfl rfl) (wl_end rfl (nmk [0, 1, 10] rfl (nm_thn ?_))))
 refine ws_condN sameTables_n7 sameTables_n8 rfl rfl rfl rfl (fun hb10 => ?_) (fun hb10 => ?_)
 ·replace hb10 := of_decide_eq_true hb10
  exfalso; omega
 ·replace hb10 := of_decide_eq_false hb10
  refine ws_skip rfl (nmk [0, 1] rfl (nm_thn (ws_seqN sameTables_n9 sameTables_n10 rfl rfl rfl (ws_seqN sameTables_n11 sameTables_n12 rfl rfl rfl ?_))))
  refine ws_region rfl (wla 0 1 rfl rfl rfl rfl rfl rfl rfl (wl_end rfl (nm_thn (ws_blockN sameTables_n13 0 rfl rfl rfl ?_))))
  refine ws_loopE (fun mx_ ax_ wx_ => ∃ (k : Nat), mx_ = pv.length - k ∧ Env 27 [(0, .slice pA pv.length pc), (1, .slice qA qv.length qc), (5, .int .i64 (k : Int))] ax_ ∧ SH wx_ M X [] ∧ k ≤ pv.length) rfl ?_ ?_
  ·intro ax_ hax_
   refine ⟨_, ⟨0, rfl, hax_.sub ⟨rfl, rfl, rfl, trivial⟩, S.pick [] [] (by decide) trivial, ?hq1f0⟩⟩
   case hq1f0 => omega
  ·rintro m1 a1 w1 ⟨k, rfl, he1, S1, hk⟩
   clear S
   refine ws_in he1 (c := sameTables_n14) rfl ?_
   clear he1 a1
   refine ws_seqN sameTables_n15 sameTables_n16 rfl rfl rfl (ws_seqN sameTables_n17 sameTables_n18 rfl rfl rfl (ws_region rfl (wlm 0 1 rfl rfl rfl rfl rfl rfl rfl (wlm 1 2 rfl rfl rfl rfl rfl rfl rfl ?_))))
   refine wlo 2 3 rfl rfl rfl (wo_run rfl rfl (run_len rfl rfl rfl rfl rfl rfl Try.underlying30) (wlo 3 4 rfl rfl rfl (wo_run rfl rfl (run_lss rfl rfl rfl) (wl_end rfl (nmk [0, 1, 5, 14] rfl (nm_thn ?_))))))
   refine ws_condN sameTables_n19 sameTables_n20 rfl rfl rfl rfl (fun hb14 => ?_) (fun hb14 => ?_)
   ·replace hb14 := of_decide_eq_true hb14
    refine ws_skip rfl (nmk [0, 1, 5] rfl (nm_thn (ws_seqN sameTables_n21 sameTables_n22 rfl rfl rfl (ws_blockN sameTables_n23 1 rfl rfl rfl ?_))))
    refine ws_seqN sameTables_n24 sameTables_n25 rfl rfl rfl (ws_draw rfl (by kernel_rfl) S1 10 rfl ?_)
    clear S1
    refine wap 0 9 rfl (by kernel_rfl) rfl rfl rfl (fun w2 => run_move rfl rfl) ?_
    refine wap 1 8 rfl (by kernel_rfl) rfl rfl rfl (fun w3 => run_move rfl rfl) ?_
    refine wat 2 7 rfl (by kernel_rfl) rfl rfl rfl (fun M3 N3 w4 hle4 S4 => .inl (run_indexM (C := (cdV 25)) k rfl rfl rfl sl30 (by first | rfl | omega) (hp.mono (Hp.un_mono hle4 S4.mx)) (by first | omega | (simp only [lens]; omega)))) ?_
    obtain ⟨hn1, hr1⟩ := hdp.2 k (by first | omega | (simp only [lens]; omega))
    have rmhr1 : (ga p k).length * 8 ≤ 140737488355328 := hr1.room
    refine wat 3 6 rfl (by kernel_rfl) rfl rfl rfl (fun M4 N4 w5 hle5 S5 => .inl (run_load1 rfl rfl Try.underlying25 rfl ((hp.mono (Hp.un_mono hle5 S5.mx)).cell S5.um (i := k) (by first | omega | (simp only [lens]; omega)) 0 rfl (congrArg (fun n => some (Value.slice _ n _)) hn1)))) ?_
    refine wap 4 5 rfl (by kernel_rfl) rfl rfl rfl (fun w6 => run_move rfl rfl) ?_
    refine wap 5 4 rfl (by kernel_rfl) rfl rfl rfl (fun w7 => run_move rfl rfl) ?_
    refine wat 6 3 rfl (by kernel_rfl) rfl rfl rfl (fun M7 N7 w8 hle8 S8 => .inl (run_indexM (C := (cdV 25)) k rfl rfl rfl sl30 (by first | rfl | omega) (hq.mono (Hp.un_mono hle8 S8.mx)) (by first | omega | (simp only [lens]; omega)))) ?_
    obtain ⟨hn2, hr2⟩ := hdq.2 k (by first | omega | (simp only [lens]; omega))
    have rmhr2 : (ga q k).length * 8 ≤ 140737488355328 := hr2.room
    refine wat 7 2 rfl (by kernel_rfl) rfl rfl rfl (fun M8 N8 w9 hle9 S9 => .inl (run_load1 rfl rfl Try.underlying25 rfl ((hq.mono (Hp.un_mono hle9 S9.mx)).cell S9.um (i := k) (by first | omega | (simp only [lens]; omega)) 0 rfl (congrArg (fun n => some (Value.slice _ n _)) hn2)))) ?_
    refine wat 8 1 rfl (by kernel_rfl) rfl rfl rfl (fun M9 N9 w10 hle10 S10 => yield_cq rfl rfl rfl rfl rfl cf8 S10 (sameInts_q (ga p k) (ga q k) ((hr1.mono (Hp.un_mono hle10 S10.mx)).mono S10.un_XH) ((hr2.mono (Hp.un_mono hle10 S10.mx)).mono S10.un_XH) ((by rw [he])) S10.lend)) ?_
    refine wap 9 0 rfl (by kernel_rfl) rfl rfl rfl (fun w11 => run_not rfl rfl) ?_
    refine wa_end (by kernel_rfl) (fun w12 S12 => ?_)
    refine nmk [0, 1, 5, 26] rfl (nm_thn (ws_condFN sameTables_n27 rfl rfl rfl (ws_skip rfl (nm_blk ?_))))
    refine nmk [0, 1, 5] rfl (nm_thn (ws_region rfl (wlm 0 1 rfl rfl rfl rfl rfl rfl rfl (wlo 1 2 rfl rfl rfl (wo_run rfl rfl (run_add rfl rfl rfl (by first | omega | (simp only [lens]; omega))) ?_)))))
    refine wla 2 3 rfl rfl rfl rfl rfl rfl rfl (wl_end rfl (nm_lp ?_))
    intro ax_ hax_
    refine ⟨_, ?hq2m, ⟨k + 1, rfl, hax_.sub ⟨rfl, rfl, rfl, trivial⟩, S12.pick [] [] (by decide) trivial, ?hq2f0⟩⟩
    case hq2f0 => omega
    case hq2m => omega
   ·replace hb14 := of_decide_eq_false hb14
    refine ws_exit rfl rfl (nm_sub [] trivial (nm_thn (ws_seqN sameTables_n28 sameTables_n29 rfl rfl rfl (ws_region rfl ?_))))
    refine wla 0 1 rfl rfl rfl rfl rfl rfl rfl (wl_end rfl (nm_thn (ws_ret hC [_] rfl rfl ⟨rfl, trivial⟩ ?_)))
    exact ⟨_, rfl, (S1.pick [] [] (by decide) trivial), rfl⟩
noncomputable def one_n0 : Code := Try.f7.body.getD .skip
noncomputable def one_n1 : Code := cL one_n0
noncomputable def one_n2 : Code := cR one_n0
noncomputable def one_n3 : Code := cL one_n2
noncomputable def one_n4 : Code := cR one_n2
noncomputable def one_n5 : Code := cL one_n4
noncomputable def one_n6 : Code := cR one_n4
noncomputable def one_n7 : Code := cL one_n5
noncomputable def one_n8 : Code := cR one_n5
noncomputable def one_n9 : Code := cL one_n8
noncomputable def one_n10 : Code := cR one_n8
noncomputable def one_n11 : Code := cL one_n6
noncomputable def one_n12 : Code := cR one_n6
set_option maxRecDepth 10000 in
theorem one_t {w : World} {M : Hp} {X : Fr} (d : Dg) {dcrsA : Option Addr} {dcrsc : Nat} (hdcrs : RdA cdCr (M.un X.h) dcrsA dcrsc d.crs) (S : SH w M X []) : Ct Try.prog 7 [.agg [.slice dcrsA d.crs.length dcrsc, .int .i64 d.loops].toArray] w M X (fun u _ => u = .int .i64 (errG d)) := by
 unfold Ct
 have rmhdcrs : d.crs.length * 40 ≤ 140737488355328 := hdcrs.room
 refine calls_in (b := one_n0) Try.func7 rfl Try.ntmps7 rfl (fun C hC => (ws_sub [(0, _)] ⟨rfl, trivial⟩ (ws_seqN one_n1 one_n2 rfl rfl rfl (ws_region rfl (wlo 0 1 rfl rfl rfl (wo_box (l := [_, _]) rfl rfl rfl rfl rfl S ?_))))))
 intro gb1 w1 S1; clear S
 refine wla 1 2 rfl rfl rfl rfl rfl rfl rfl (wl_end rfl (nmk [1] rfl (nm_thn (ws_seqN one_n3 one_n4 rfl rfl rfl ?_))))
 refine ws_region rfl (wlo 0 1 rfl rfl rfl (wo_run rfl rfl (run_loadN (us := [_, _]) rfl rfl Try.underlying24 rfl sz24 (S1.boxcs (i := 0) rfl ⟨rfl, rfl, trivial⟩)) (wlo 1 2 rfl rfl rfl (wo_ct rfl rfl rfl rfl rfl rfl rfl cf14 S1 (PlanarMay_t d (hdcrs.mono S1.un_XH) S1.lend) ?_))))
 intro vw2 w2 M1 hle1 S2 hRw2; clear S1
 replace hdcrs := hdcrs.mono (Hp.un_mono hle1 S2.mx)
 obtain rfl := hRw2
 refine wla 2 3 rfl rfl rfl rfl rfl rfl rfl (wl_end rfl (nmk [1, 3] rfl (nm_thn (ws_seqN one_n5 one_n6 rfl rfl rfl ?_))))
 refine ws_seqN one_n7 one_n8 rfl rfl rfl (ws_region rfl (wlm 0 1 rfl rfl rfl rfl rfl rfl rfl (wlo 1 2 rfl rfl rfl (wo_run rfl rfl (run_eql rfl rfl rfl) (wlm 2 3 rfl rfl rfl rfl rfl rfl rfl ?_)))))
 refine wl_split (t := 8) rfl (fun hg8 => ?_) (fun hg8 => ?_)
 ·replace hg8 := of_decide_eq_true hg8
  refine wlg 3 4 rfl rfl rfl rfl rfl rfl rfl rfl (wo_run rfl rfl (run_loadN (us := [_, _]) rfl rfl Try.underlying24 rfl sz24 (S2.boxcs (i := 0) rfl ⟨rfl, rfl, trivial⟩)) (wlg 4 5 rfl rfl rfl rfl rfl rfl rfl rfl (wo_ct rfl rfl rfl rfl rfl rfl rfl cf15 S2 (OnePiece_t d (hdcrs.mono S2.un_XH) ((mayO (errO_ok hg8).1).1) ((mayO (errO_ok hg8).1).2.1) S2.lend) ?_)))
  intro vw3 w3 M2 hle2 S3 hRw3; clear S2
  replace hdcrs := hdcrs.mono (Hp.un_mono hle2 S3.mx)
  obtain rfl := hRw3
  refine wlg 5 6 rfl rfl rfl rfl rfl rfl rfl rfl (wo_run rfl rfl (run_not rfl rfl) (wlo 6 7 rfl rfl rfl (wo_run rfl rfl (run_pickT rfl rfl rfl) (wl_end rfl (nmk [3, 12] rfl (nm_thn ?_))))))
  refine ws_condN one_n9 one_n10 rfl rfl rfl rfl (fun hb12 => ?_) (fun hb12 => ?_)
  ·simp only [Bool.and_eq_true, Bool.or_eq_true, Bool.and_eq_false_iff, Bool.or_eq_false_iff, decide_eq_true_eq, decide_eq_false_iff_not, Bool.not_eq_true', Bool.not_eq_false'] at hb12
   refine ws_region rfl (wla 0 1 rfl rfl rfl rfl rfl rfl rfl (wl_end rfl (nmk [3] rfl (nm_thn ?_))))
   refine ws_seqN one_n11 one_n12 rfl rfl rfl (ws_region rfl (wlm 0 1 rfl rfl rfl rfl rfl rfl rfl (wla 1 2 rfl rfl rfl rfl rfl rfl rfl (wl_end rfl ?_))))
   refine nmk [2] rfl (nm_thn (ws_ret hC [_] rfl rfl ⟨rfl, trivial⟩ ?_))
   refine ⟨_, rfl, _, hle1.trans hle2, (S3.pick [] [] (by decide) trivial), ?_⟩
   show Value.int _ _ = _
   refine congrArg (Value.int .i64) ?_
   unfold errG
   first | (rw [if_neg hg8]; done) | (rw [if_pos hg8, if_neg (by simpa using hb12)]; done) | (rw [if_pos hg8, if_pos (by simpa using hb12)]; exact hg8)
  ·simp only [Bool.and_eq_true, Bool.or_eq_true, Bool.and_eq_false_iff, Bool.or_eq_false_iff, decide_eq_true_eq, decide_eq_false_iff_not, Bool.not_eq_true', Bool.not_eq_false'] at hb12
   refine ws_skip rfl (nmk [3] rfl (nm_thn (ws_seqN one_n11 one_n12 rfl rfl rfl (ws_region rfl ?_))))
   refine wlm 0 1 rfl rfl rfl rfl rfl rfl rfl (wla 1 2 rfl rfl rfl rfl rfl rfl rfl (wl_end rfl (nmk [2] rfl (nm_thn ?_))))
   refine ws_ret hC [_] rfl rfl ⟨rfl, trivial⟩ ?_
   refine ⟨_, rfl, _, hle1.trans hle2, (S3.pick [] [] (by decide) trivial), ?_⟩
   show Value.int _ _ = _
   refine congrArg (Value.int .i64) ?_
   unfold errG
   first | (rw [if_neg hg8]; done) | (rw [if_pos hg8, if_neg (by simpa using hb12)]; done) | (rw [if_pos hg8, if_pos (by simpa using hb12)]; exact hg8)
 ·replace hg8 := of_decide_eq_false hg8
  refine wln 3 4 rfl rfl rfl rfl rfl rfl rfl rfl rfl (wln 4 5 rfl rfl rfl rfl rfl rfl rfl rfl rfl (wln 5 6 rfl rfl rfl rfl rfl rfl rfl rfl rfl (wlo 6 7 rfl rfl rfl (wo_run rfl rfl (run_pickF rfl rfl rfl) (wl_end rfl ?_)))))
  refine nmk [3, 12] rfl (nm_thn (ws_condFN one_n10 rfl rfl rfl (ws_skip rfl (nmk [3] rfl ?_))))
  refine nm_thn (ws_seqN one_n11 one_n12 rfl rfl rfl (ws_region rfl (wlm 0 1 rfl rfl rfl rfl rfl rfl rfl (wla 1 2 rfl rfl rfl rfl rfl rfl rfl ?_))))
  refine wl_end rfl (nmk [2] rfl (nm_thn (ws_ret hC [_] rfl rfl ⟨rfl, trivial⟩ ?_)))
  refine ⟨_, rfl, _, hle1, (S2.pick [] [] (by decide) trivial), ?_⟩
  show Value.int _ _ = _
  refine congrArg (Value.int .i64) ?_
  unfold errG
  first | (rw [if_neg hg8]; done) | (rw [if_pos hg8, if_neg (by simpa using hb12)]; done) | (rw [if_pos hg8, if_pos (by simpa using hb12)]; exact hg8)
noncomputable def SignShades_n0 : Code := Try.f3.body.getD .skip
noncomputable def SignShades_n1 : Code := cL SignShades_n0
noncomputable def SignShades_n2 : Code := cR SignShades_n0
noncomputable def SignShades_n3 : Code := cL SignShades_n2
noncomputable def SignShades_n4 : Code := cR SignShades_n2
noncomputable def SignShades_n5 : Code := cL SignShades_n4
noncomputable def SignShades_n6 : Code := cR SignShades_n4
noncomputable def SignShades_n7 : Code := cL SignShades_n6
noncomputable def SignShades_n8 : Code := cR SignShades_n6
noncomputable def SignShades_n9 : Code := cL SignShades_n8
noncomputable def SignShades_n10 : Code := cR SignShades_n8
noncomputable def SignShades_n11 : Code := cL SignShades_n9
noncomputable def SignShades_n12 : Code := cR SignShades_n9
noncomputable def SignShades_n13 : Code := cL SignShades_n12
noncomputable def SignShades_n14 : Code := cR SignShades_n12
noncomputable def SignShades_n15 : Code := cL SignShades_n13
noncomputable def SignShades_n16 : Code := cR SignShades_n13
noncomputable def SignShades_n17 : Code := cL SignShades_n16
noncomputable def SignShades_n18 : Code := cR SignShades_n16
noncomputable def SignShades_n19 : Code := cL SignShades_n10
noncomputable def SignShades_n20 : Code := cR SignShades_n10
noncomputable def SignShades_n21 : Code := cL SignShades_n19
noncomputable def SignShades_n22 : Code := cR SignShades_n19
noncomputable def SignShades_n23 : Code := cL SignShades_n22
noncomputable def SignShades_n24 : Code := cR SignShades_n22
noncomputable def SignShades_n25 : Code := cL SignShades_n23
noncomputable def SignShades_n26 : Code := cR SignShades_n23
noncomputable def SignShades_n27 : Code := cL SignShades_n20
noncomputable def SignShades_n28 : Code := cR SignShades_n20
noncomputable def SignShades_n29 : Code := cL SignShades_n27
noncomputable def SignShades_n30 : Code := cR SignShades_n27
noncomputable def SignShades_n31 : Code := cL SignShades_n30
noncomputable def SignShades_n32 : Code := cR SignShades_n30
noncomputable def SignShades_n33 : Code := cL SignShades_n31
noncomputable def SignShades_n34 : Code := cR SignShades_n31
noncomputable def SignShades_n35 : Code := cL SignShades_n14
noncomputable def SignShades_n36 : Code := cR SignShades_n14
noncomputable def SignShades_n38 : Code := cR SignShades_n36
noncomputable def SignShades_n39 : Code := cL SignShades_n28
noncomputable def SignShades_n40 : Code := cR SignShades_n28
noncomputable def SignShades_n41 : Code := cL SignShades_n40
noncomputable def SignShades_n42 : Code := cR SignShades_n40
set_option maxHeartbeats 1000000 in
set_option maxRecDepth 10000 in
theorem SignShades_t {w : World} {M : Hp} {X : Fr} (d : Dg) {dcrsA : Option Addr} {dcrsc : Nat} (sd : Int) (hdcrs : RdA cdCr M dcrsA dcrsc d.crs) (S : SH w M X []) : Ct Try.prog 3 [.agg [.slice dcrsA d.crs.length dcrsc, .int .i64 d.loops].toArray, .int .i64 sd] w M X (fun u _ => u = .bool true) := by
 unfold Ct
 have rmhdcrs : d.crs.length * 40 ≤ 140737488355328 := hdcrs.room
 refine calls_in (b := SignShades_n0) Try.func3 rfl Try.ntmps3 rfl (fun C hC => (ws_sub [(0, _), (1, _)] ⟨rfl, rfl, trivial⟩ (ws_seqN SignShades_n1 SignShades_n2 rfl rfl rfl (ws_region rfl (wlo 0 1 rfl rfl rfl (wo_box (l := [_, _]) rfl rfl rfl rfl rfl S ?_))))))
 intro gb1 w1 S1; clear S
 refine wla 1 2 rfl rfl rfl rfl rfl rfl rfl (wl_end rfl (nmk [1, 2] rfl (nm_thn (ws_seqN SignShades_n3 SignShades_n4 rfl rfl rfl ?_))))
 refine ws_region rfl (wlo 0 1 rfl rfl rfl (wo_run rfl rfl (run_loadN (us := [_, _]) rfl rfl Try.underlying24 rfl sz24 (S1.boxcs (i := 0) rfl ⟨rfl, rfl, trivial⟩)) (wlo 1 2 rfl rfl rfl (wo_ct rfl rfl rfl rfl rfl rfl rfl cf5 S1 (DiagramOf_t d (hdcrs.mono (Hp.le_un _ _)) S1.lend) ?_))))
 intro vw2 w2 M1 hle1 S2 hRw2; clear S1
 replace hdcrs := hdcrs.mono hle1
 obtain ⟨A1, c1, rfl, hr1⟩ := hRw2
 refine wlo 2 3 rfl rfl rfl (wo_ct rfl rfl rfl rfl rfl rfl rfl cf4 S2 (Shades_t d (hr1.mono (Hp.le_un _ _)) S2.lend) ?_)
 intro vw3 w3 M2 hle2 S3 hRw3; clear S2
 replace hdcrs := hdcrs.mono hle2
 replace hr1 := hr1.mono hle2
 obtain ⟨A2, c2, rfl, hr2⟩ := hRw3
 refine wlm 3 4 rfl rfl rfl rfl rfl rfl rfl (wlo 4 5 rfl rfl rfl (wo_run rfl rfl (run_extract rfl rfl rfl) (wlo 5 6 rfl rfl rfl (wo_run rfl rfl (run_extract rfl rfl rfl) (wla 6 7 rfl rfl rfl rfl rfl rfl rfl (wla 7 8 rfl rfl rfl rfl rfl rfl rfl ?_))))))
 refine wl_end rfl (nmk [1, 2, 5, 6] rfl (nm_thn (ws_seqN SignShades_n5 SignShades_n6 rfl rfl rfl (ws_region rfl ?_))))
 refine wlo 0 1 rfl rfl rfl (wo_run rfl rfl (run_loadN (us := [_, _]) rfl rfl Try.underlying24 rfl sz24 (S3.boxcs (i := 0) rfl ⟨rfl, rfl, trivial⟩)) (wlo 1 2 rfl rfl rfl (wo_ct rfl rfl rfl rfl rfl rfl rfl cf5 S3 (DiagramOf_t d (hdcrs.mono (Hp.le_un _ _)) S3.lend) ?_)))
 intro vw4 w4 M3 hle3 S4 hRw4; clear S3
 replace hdcrs := hdcrs.mono hle3
 replace hr1 := hr1.mono hle3
 replace hr2 := hr2.mono hle3
 obtain ⟨A3, c3, rfl, hr3⟩ := hRw4
 refine wlm 2 3 rfl rfl rfl rfl rfl rfl rfl (wlo 3 4 rfl rfl rfl (wo_ct rfl rfl rfl rfl rfl rfl rfl cf6 S4 (Goeritz_t d sd (hr3.mono (Hp.le_un _ _)) S4.lend) ?_))
 intro vw5 w5 M4 hle4 S5 hRw5; clear S4
 replace hdcrs := hdcrs.mono hle4
 replace hr1 := hr1.mono hle4
 replace hr2 := hr2.mono hle4
 replace hr3 := hr3.mono hle4
 obtain ⟨A4, c4, vs1, rfl, hr4, hd1⟩ := hRw5
 have hgl := hd1.1
 refine wlm 4 5 rfl rfl rfl rfl rfl rfl rfl (wlo 5 6 rfl rfl rfl (wo_run rfl rfl (run_extract rfl rfl rfl) (wlo 6 7 rfl rfl rfl (wo_run rfl rfl (run_extract rfl rfl rfl) (wlo 7 8 rfl rfl rfl (wo_run rfl rfl (run_extract rfl rfl rfl) (wla 8 9 rfl rfl rfl rfl rfl rfl rfl ?_)))))))
 refine wla 9 10 rfl rfl rfl rfl rfl rfl rfl (wla 10 11 rfl rfl rfl rfl rfl rfl rfl (wl_end rfl (nmk [1, 2, 5, 6, 7, 8, 9] rfl (nm_thn ?_))))
 refine ws_seqN SignShades_n7 SignShades_n8 rfl rfl rfl (ws_region rfl (wlo 0 1 rfl rfl rfl (wo_run rfl rfl (run_loadN (us := [_, _]) rfl rfl Try.underlying24 rfl sz24 (S5.boxcs (i := 0) rfl ⟨rfl, rfl, trivial⟩)) (wlo 1 2 rfl rfl rfl (wo_ct rfl rfl rfl rfl rfl rfl rfl cf7 S5 (one_t d (hdcrs.mono (Hp.le_un _ _)) S5.lend) ?_)))))
 intro vw6 w6 M5 hle5 S6 hRw6; clear S5
 replace hdcrs := hdcrs.mono hle5
 replace hr1 := hr1.mono hle5
 replace hr2 := hr2.mono hle5
 replace hr3 := hr3.mono hle5
 replace hr4 := hr4.mono hle5
 replace hd1 := hd1.mono hle5
 obtain rfl := hRw6
 refine wla 2 3 rfl rfl rfl rfl rfl rfl rfl (wl_end rfl (nmk [1, 2, 5, 6, 7, 8, 9, 10] rfl (nm_thn (ws_seqN SignShades_n9 SignShades_n10 rfl rfl rfl ?_))))
 refine ws_seqN SignShades_n11 SignShades_n12 rfl rfl rfl (ws_region rfl (wlm 0 1 rfl rfl rfl rfl rfl rfl rfl (wlo 1 2 rfl rfl rfl (wo_run rfl rfl (run_neq rfl rfl rfl) (wl_end rfl ?_)))))
 refine nmk [1, 2, 5, 6, 7, 8, 9, 10, 30] rfl (nm_thn ?_)
 refine ws_condN SignShades_n13 SignShades_n14 rfl rfl rfl rfl (fun hb30 => ?_) (fun hb30 => ?_)
 ·replace hb30 := of_decide_eq_true hb30
  have e1 : shR d = [] := by unfold shR; rw [if_neg hb30]
  have hl1 : (shR d).length = 0 := by rw [e1]; rfl
  have hz : errZ d sd ≠ 0 := by unfold errZ; split; exact hb30; decide
  have e2 : gzR d sd = [] := by unfold gzR; rw [if_neg hz]
  rw [e2] at hgl
  replace hgl := hgl.trans List.length_nil
  have e3 : fxR d sd = 0 := by unfold fxR; rw [if_neg hz]
  refine ws_seqN SignShades_n15 SignShades_n16 rfl rfl rfl (ws_region rfl (wlm 0 1 rfl rfl rfl rfl rfl rfl rfl (wlm 1 2 rfl rfl rfl rfl rfl rfl rfl (wlo 2 3 rfl rfl rfl (wo_run rfl rfl (run_neq rfl rfl rfl) ?_)))))
  refine wlm 3 4 rfl rfl rfl rfl rfl rfl rfl ?_
  refine wl_split (t := 34) rfl (fun hg34 => ?_) (fun hg34 => ?_)
  ·replace hg34 := of_decide_eq_true hg34
   exfalso; first | omega | (simp_all; done) | contradiction
  ·replace hg34 := of_decide_eq_false hg34
   refine wlg 4 5 rfl rfl rfl rfl rfl rfl rfl rfl (wo_run rfl rfl (run_move rfl rfl) (wlg 5 6 rfl rfl rfl rfl rfl rfl rfl rfl (wo_run rfl rfl (run_len rfl rfl rfl rfl rfl rfl Try.underlying25) (wlg 6 7 rfl rfl rfl rfl rfl rfl rfl rfl (wo_run rfl rfl (run_gtr rfl rfl rfl) (wlo 7 8 rfl rfl rfl (wo_run rfl rfl (run_pickF rfl rfl rfl) (wlm 8 9 rfl rfl rfl rfl rfl rfl rfl ?_))))))))
   refine wl_split (t := 39) rfl (fun hg39 => ?_) (fun hg39 => ?_)
   ·replace hg39 := of_decide_eq_true hg39
    exfalso; first | omega | (simp_all; done) | contradiction
   ·replace hg39 := of_decide_eq_false hg39
    refine wlg 9 10 rfl rfl rfl rfl rfl rfl rfl rfl (wo_run rfl rfl (run_move rfl rfl) (wlg 10 11 rfl rfl rfl rfl rfl rfl rfl rfl (wo_run rfl rfl (run_len rfl rfl rfl rfl rfl rfl Try.underlying30) (wlg 11 12 rfl rfl rfl rfl rfl rfl rfl rfl (wo_run rfl rfl (run_gtr rfl rfl rfl) (wlo 12 13 rfl rfl rfl (wo_run rfl rfl (run_pickF rfl rfl rfl) (wlm 13 14 rfl rfl rfl rfl rfl rfl rfl ?_))))))))
    refine wl_split (t := 44) rfl (fun hg44 => ?_) (fun hg44 => ?_)
    ·replace hg44 := of_decide_eq_true hg44
     exfalso; first | omega | (simp_all; done) | contradiction
    ·replace hg44 := of_decide_eq_false hg44
     refine wlg 14 15 rfl rfl rfl rfl rfl rfl rfl rfl (wo_run rfl rfl (run_move rfl rfl) (wlg 15 16 rfl rfl rfl rfl rfl rfl rfl rfl (wo_run rfl rfl (run_neq rfl rfl rfl) (wlo 16 17 rfl rfl rfl (wo_run rfl rfl (run_pickF rfl rfl rfl) (wl_end rfl (nmk [1, 2, 7, 8, 9, 10, 47] rfl ?_)))))))
     refine nm_thn ?_
     refine ws_condN SignShades_n17 SignShades_n18 rfl rfl rfl rfl (fun hb47 => ?_) (fun hb47 => ?_)
     ·replace hb47 := of_decide_eq_true hb47
      exfalso; first | omega | (simp_all; done) | contradiction
     ·replace hb47 := of_decide_eq_false hb47
      refine ws_skip rfl (nmk [1, 2, 7, 8, 9, 10] rfl (nm_thn (ws_seqN SignShades_n19 SignShades_n20 rfl rfl rfl (ws_seqN SignShades_n21 SignShades_n22 rfl rfl rfl ?_))))
      refine ws_region rfl (wlm 0 1 rfl rfl rfl rfl rfl rfl rfl (wlo 1 2 rfl rfl rfl (wo_run rfl rfl (run_neq rfl rfl rfl) (wlm 2 3 rfl rfl rfl rfl rfl rfl rfl ?_))))
      refine wl_split (t := 59) rfl (fun hg59 => ?_) (fun hg59 => ?_)
      ·replace hg59 := of_decide_eq_true hg59
       refine wlg 3 4 rfl rfl rfl rfl rfl rfl rfl rfl (wo_run rfl rfl (run_move rfl rfl) (wlg 4 5 rfl rfl rfl rfl rfl rfl rfl rfl (wo_run rfl rfl (run_neq rfl rfl rfl) (wlo 5 6 rfl rfl rfl (wo_run rfl rfl (run_pickT rfl rfl rfl) (wl_end rfl (nmk [1, 2, 7, 8, 9, 10, 62] rfl ?_)))))))
       refine nm_thn ?_
       refine ws_condN SignShades_n23 SignShades_n24 rfl rfl rfl rfl (fun hb62 => ?_) (fun hb62 => ?_)
       ·replace hb62 := of_decide_eq_true hb62
        refine ws_seqN SignShades_n25 SignShades_n26 rfl rfl rfl ?_
        have hz3 : errZ d sd = 3 := by unfold errZ; rw [if_neg (by omega)]
        refine ws_region rfl (wlm 0 1 rfl rfl rfl rfl rfl rfl rfl (wlo 1 2 rfl rfl rfl (wo_run rfl rfl (run_eql rfl rfl rfl) (wlm 2 3 rfl rfl rfl rfl rfl rfl rfl ?_))))
        refine wl_split (t := 65) rfl (fun hg65 => ?_) (fun hg65 => ?_)
        ·replace hg65 := of_decide_eq_true hg65
         refine wlg 3 4 rfl rfl rfl rfl rfl rfl rfl rfl (wo_run rfl rfl (run_move rfl rfl) (wlg 4 5 rfl rfl rfl rfl rfl rfl rfl rfl (wo_run rfl rfl (run_len rfl rfl rfl rfl rfl rfl Try.underlying30) (wlg 5 6 rfl rfl rfl rfl rfl rfl rfl rfl (wo_run rfl rfl (run_eql rfl rfl rfl) (wlo 6 7 rfl rfl rfl (wo_run rfl rfl (run_pickT rfl rfl rfl) (wlm 7 8 rfl rfl rfl rfl rfl rfl rfl ?_))))))))
         refine wl_split (t := 70) rfl (fun hg70 => ?_) (fun hg70 => ?_)
         ·replace hg70 := of_decide_eq_true hg70
          refine wlg 8 9 rfl rfl rfl rfl rfl rfl rfl rfl (wo_run rfl rfl (run_move rfl rfl) (wlg 9 10 rfl rfl rfl rfl rfl rfl rfl rfl (wo_run rfl rfl (run_eql rfl rfl rfl) (wlo 10 11 rfl rfl rfl (wo_run rfl rfl (run_pickT rfl rfl rfl) (wla 11 12 rfl rfl rfl rfl rfl rfl rfl (wl_end rfl ?_)))))))
          refine nmk [4] rfl (nm_thn (ws_ret hC [_] rfl rfl ⟨rfl, trivial⟩ ?_))
          refine ⟨_, rfl, _, (((hle1.trans hle2).trans hle3).trans hle4).trans hle5, (S6.pick [] [] (by decide) trivial), ?_⟩
          show Value.bool _ = _
          refine congrArg Value.bool ?_
          first | rfl | (rw [decide_eq_true_iff]; omega) | (simp_all; done)
         ·replace hg70 := of_decide_eq_false hg70
          refine wln 8 9 rfl rfl rfl rfl rfl rfl rfl rfl rfl (wln 9 10 rfl rfl rfl rfl rfl rfl rfl rfl rfl (wlo 10 11 rfl rfl rfl (wo_run rfl rfl (run_pickF rfl rfl rfl) (wla 11 12 rfl rfl rfl rfl rfl rfl rfl (wl_end rfl ?_)))))
          refine nmk [4] rfl (nm_thn (ws_ret hC [_] rfl rfl ⟨rfl, trivial⟩ ?_))
          refine ⟨_, rfl, _, (((hle1.trans hle2).trans hle3).trans hle4).trans hle5, (S6.pick [] [] (by decide) trivial), ?_⟩
          show Value.bool _ = _
          refine congrArg Value.bool ?_
          first | rfl | (rw [decide_eq_true_iff]; omega) | (simp_all; done)
        ·replace hg65 := of_decide_eq_false hg65
         refine wln 3 4 rfl rfl rfl rfl rfl rfl rfl rfl rfl (wln 4 5 rfl rfl rfl rfl rfl rfl rfl rfl rfl (wln 5 6 rfl rfl rfl rfl rfl rfl rfl rfl rfl (wlo 6 7 rfl rfl rfl (wo_run rfl rfl (run_pickF rfl rfl rfl) (wlm 7 8 rfl rfl rfl rfl rfl rfl rfl ?_)))))
         refine wln 8 9 rfl rfl rfl rfl rfl rfl rfl rfl rfl (wln 9 10 rfl rfl rfl rfl rfl rfl rfl rfl rfl (wlo 10 11 rfl rfl rfl (wo_run rfl rfl (run_pickF rfl rfl rfl) (wla 11 12 rfl rfl rfl rfl rfl rfl rfl (wl_end rfl ?_)))))
         refine nmk [4] rfl (nm_thn (ws_ret hC [_] rfl rfl ⟨rfl, trivial⟩ ?_))
         refine ⟨_, rfl, _, (((hle1.trans hle2).trans hle3).trans hle4).trans hle5, (S6.pick [] [] (by decide) trivial), ?_⟩
         show Value.bool _ = _
         refine congrArg Value.bool ?_
         first | rfl | (rw [decide_eq_true_iff]; omega) | (simp_all; done)
       ·replace hb62 := of_decide_eq_false hb62
        refine ws_skip rfl (nmk [1, 2, 7, 8, 9, 10] rfl (nm_thn (ws_seqN SignShades_n27 SignShades_n28 rfl rfl rfl (ws_seqN SignShades_n29 SignShades_n30 rfl rfl rfl ?_))))
        have h01 : sd = 0 ∨ sd = 1 := by omega
        have hzg : errZ d sd = errG d := by unfold errZ; rw [if_pos h01]
        refine ws_region rfl (wlm 0 1 rfl rfl rfl rfl rfl rfl rfl (wlo 1 2 rfl rfl rfl (wo_run rfl rfl (run_neq rfl rfl rfl) (wl_end rfl (nmk [1, 2, 7, 8, 9, 10, 75] rfl ?_)))))
        refine nm_thn ?_
        refine ws_condN SignShades_n31 SignShades_n32 rfl rfl rfl rfl (fun hb75 => ?_) (fun hb75 => ?_)
        ·replace hb75 := of_decide_eq_true hb75
         refine ws_seqN SignShades_n33 SignShades_n34 rfl rfl rfl (ws_region rfl (wlm 0 1 rfl rfl rfl rfl rfl rfl rfl (wlm 1 2 rfl rfl rfl rfl rfl rfl rfl (wlo 2 3 rfl rfl rfl (wo_run rfl rfl (run_eql rfl rfl rfl) ?_)))))
         refine wla 3 4 rfl rfl rfl rfl rfl rfl rfl (wl_end rfl (nmk [4] rfl (nm_thn (ws_ret hC [_] rfl rfl ⟨rfl, trivial⟩ ?_))))
         refine ⟨_, rfl, _, (((hle1.trans hle2).trans hle3).trans hle4).trans hle5, (S6.pick [] [] (by decide) trivial), ?_⟩
         show Value.bool _ = _
         refine congrArg Value.bool ?_
         first | rfl | (rw [decide_eq_true_iff]; omega) | (simp_all; done)
        ·replace hb75 := of_decide_eq_false hb75
         exfalso; omega
      ·replace hg59 := of_decide_eq_false hg59
       refine wln 3 4 rfl rfl rfl rfl rfl rfl rfl rfl rfl (wln 4 5 rfl rfl rfl rfl rfl rfl rfl rfl rfl (wlo 5 6 rfl rfl rfl (wo_run rfl rfl (run_pickF rfl rfl rfl) (wl_end rfl (nmk [1, 2, 7, 8, 9, 10, 62] rfl ?_)))))
       refine nm_thn (ws_condFN SignShades_n24 rfl rfl rfl (ws_skip rfl (nmk [1, 2, 7, 8, 9, 10] rfl (nm_thn ?_))))
       refine ws_seqN SignShades_n27 SignShades_n28 rfl rfl rfl (ws_seqN SignShades_n29 SignShades_n30 rfl rfl rfl ?_)
       have h01 : sd = 0 ∨ sd = 1 := by omega
       have hzg : errZ d sd = errG d := by unfold errZ; rw [if_pos h01]
       refine ws_region rfl (wlm 0 1 rfl rfl rfl rfl rfl rfl rfl (wlo 1 2 rfl rfl rfl (wo_run rfl rfl (run_neq rfl rfl rfl) (wl_end rfl (nmk [1, 2, 7, 8, 9, 10, 75] rfl ?_)))))
       refine nm_thn ?_
       refine ws_condN SignShades_n31 SignShades_n32 rfl rfl rfl rfl (fun hb75 => ?_) (fun hb75 => ?_)
       ·replace hb75 := of_decide_eq_true hb75
        refine ws_seqN SignShades_n33 SignShades_n34 rfl rfl rfl (ws_region rfl (wlm 0 1 rfl rfl rfl rfl rfl rfl rfl (wlm 1 2 rfl rfl rfl rfl rfl rfl rfl (wlo 2 3 rfl rfl rfl (wo_run rfl rfl (run_eql rfl rfl rfl) ?_)))))
        refine wla 3 4 rfl rfl rfl rfl rfl rfl rfl (wl_end rfl (nmk [4] rfl (nm_thn (ws_ret hC [_] rfl rfl ⟨rfl, trivial⟩ ?_))))
        refine ⟨_, rfl, _, (((hle1.trans hle2).trans hle3).trans hle4).trans hle5, (S6.pick [] [] (by decide) trivial), ?_⟩
        show Value.bool _ = _
        refine congrArg Value.bool ?_
        first | rfl | (rw [decide_eq_true_iff]; omega) | (simp_all; done)
       ·replace hb75 := of_decide_eq_false hb75
        exfalso; omega
 ·replace hb30 := of_decide_eq_false hb30
  replace hb30 : errG d = 0 := by omega
  obtain ⟨hO9, h19, hS, hn⟩ := errG_ok hb30
  have hsh : shR d = shL d := by unfold shR; rw [if_pos hb30]
  refine ws_seqN SignShades_n35 SignShades_n36 rfl rfl rfl (ws_region rfl (wlm 0 1 rfl rfl rfl rfl rfl rfl rfl (wlo 1 2 rfl rfl rfl (wo_run rfl rfl (run_neq rfl rfl rfl) (wlm 2 3 rfl rfl rfl rfl rfl rfl rfl ?_)))))
  refine wl_split (t := 50) rfl (fun hg50 => ?_) (fun hg50 => ?_)
  ·replace hg50 := of_decide_eq_true hg50
   exfalso; first | omega | (simp_all; done) | contradiction
  ·replace hg50 := of_decide_eq_false hg50
   refine wlg 3 4 rfl rfl rfl rfl rfl rfl rfl rfl (wo_run rfl rfl (run_move rfl rfl) (wlg 4 5 rfl rfl rfl rfl rfl rfl rfl rfl (wo_run rfl rfl (run_loadN (us := [_, _]) rfl rfl Try.underlying24 rfl sz24 (S6.boxcs (i := 0) rfl ⟨rfl, rfl, trivial⟩)) (wlg 5 6 rfl rfl rfl rfl rfl rfl rfl rfl (wo_ct rfl rfl rfl rfl rfl rfl rfl cf9 S6 (ShadesOf_t d (hdcrs.mono (Hp.le_un _ _)) (hn) (hS) S6.lend) ?_)))))
   intro vw7 w7 M6 hle6 S7 hRw7; clear S6
   replace hdcrs := hdcrs.mono hle6
   replace hr1 := hr1.mono hle6
   replace hr2 := hr2.mono hle6
   replace hr3 := hr3.mono hle6
   replace hr4 := hr4.mono hle6
   replace hd1 := hd1.mono hle6
   obtain ⟨A5, c5, rfl, hr5⟩ := hRw7
   refine wlg 6 7 rfl rfl rfl rfl rfl rfl rfl rfl (wo_cq rfl rfl rfl rfl rfl rfl rfl cf8 S7 (sameInts_q (shR d) (shL d) (hr2.mono (Hp.le_un _ _)) (hr5.mono (Hp.le_un _ _)) (hsh) S7.lend) ?_)
   rintro _ w8 S8 rfl; clear S7
   refine wlg 7 8 rfl rfl rfl rfl rfl rfl rfl rfl (wo_run rfl rfl (run_not rfl rfl) (wlo 8 9 rfl rfl rfl (wo_run rfl rfl (run_pickF rfl rfl rfl) (wl_end rfl (nmk [1, 2, 7, 8, 9, 10, 56] rfl (nm_thn ?_))))))
   refine ws_condFN SignShades_n38 rfl rfl rfl (ws_skip rfl (nmk [1, 2, 7, 8, 9, 10] rfl (nm_thn (ws_seqN SignShades_n19 SignShades_n20 rfl rfl rfl ?_))))
   refine ws_seqN SignShades_n21 SignShades_n22 rfl rfl rfl (ws_region rfl (wlm 0 1 rfl rfl rfl rfl rfl rfl rfl (wlo 1 2 rfl rfl rfl (wo_run rfl rfl (run_neq rfl rfl rfl) (wlm 2 3 rfl rfl rfl rfl rfl rfl rfl ?_)))))
   refine wl_split (t := 59) rfl (fun hg59 => ?_) (fun hg59 => ?_)
   ·replace hg59 := of_decide_eq_true hg59
    refine wlg 3 4 rfl rfl rfl rfl rfl rfl rfl rfl (wo_run rfl rfl (run_move rfl rfl) (wlg 4 5 rfl rfl rfl rfl rfl rfl rfl rfl (wo_run rfl rfl (run_neq rfl rfl rfl) (wlo 5 6 rfl rfl rfl (wo_run rfl rfl (run_pickT rfl rfl rfl) (wl_end rfl (nmk [1, 2, 7, 8, 9, 10, 62] rfl ?_)))))))
    refine nm_thn ?_
    refine ws_condN SignShades_n23 SignShades_n24 rfl rfl rfl rfl (fun hb62 => ?_) (fun hb62 => ?_)
    ·replace hb62 := of_decide_eq_true hb62
     refine ws_seqN SignShades_n25 SignShades_n26 rfl rfl rfl ?_
     have hz3 : errZ d sd = 3 := by unfold errZ; rw [if_neg (by omega)]
     have e2 : gzR d sd = [] := by unfold gzR; rw [if_neg (by rw [hz3]; decide)]
     have hgl2 := hgl
     rw [e2] at hgl2
     replace hgl2 := hgl2.trans List.length_nil
     have e3 : fxR d sd = 0 := by unfold fxR; rw [if_neg (by rw [hz3]; decide)]
     refine ws_region rfl (wlm 0 1 rfl rfl rfl rfl rfl rfl rfl (wlo 1 2 rfl rfl rfl (wo_run rfl rfl (run_eql rfl rfl rfl) (wlm 2 3 rfl rfl rfl rfl rfl rfl rfl ?_))))
     refine wl_split (t := 65) rfl (fun hg65 => ?_) (fun hg65 => ?_)
     ·replace hg65 := of_decide_eq_true hg65
      refine wlg 3 4 rfl rfl rfl rfl rfl rfl rfl rfl (wo_run rfl rfl (run_move rfl rfl) (wlg 4 5 rfl rfl rfl rfl rfl rfl rfl rfl (wo_run rfl rfl (run_len rfl rfl rfl rfl rfl rfl Try.underlying30) (wlg 5 6 rfl rfl rfl rfl rfl rfl rfl rfl (wo_run rfl rfl (run_eql rfl rfl rfl) (wlo 6 7 rfl rfl rfl (wo_run rfl rfl (run_pickT rfl rfl rfl) (wlm 7 8 rfl rfl rfl rfl rfl rfl rfl ?_))))))))
      refine wl_split (t := 70) rfl (fun hg70 => ?_) (fun hg70 => ?_)
      ·replace hg70 := of_decide_eq_true hg70
       refine wlg 8 9 rfl rfl rfl rfl rfl rfl rfl rfl (wo_run rfl rfl (run_move rfl rfl) (wlg 9 10 rfl rfl rfl rfl rfl rfl rfl rfl (wo_run rfl rfl (run_eql rfl rfl rfl) (wlo 10 11 rfl rfl rfl (wo_run rfl rfl (run_pickT rfl rfl rfl) (wla 11 12 rfl rfl rfl rfl rfl rfl rfl (wl_end rfl ?_)))))))
       refine nmk [4] rfl (nm_thn (ws_ret hC [_] rfl rfl ⟨rfl, trivial⟩ ?_))
       refine ⟨_, rfl, _, ((((hle1.trans hle2).trans hle3).trans hle4).trans hle5).trans hle6, (S8.pick [] [] (by decide) trivial), ?_⟩
       show Value.bool _ = _
       refine congrArg Value.bool ?_
       first | rfl | (rw [decide_eq_true_iff]; omega) | (simp_all; done)
      ·replace hg70 := of_decide_eq_false hg70
       refine wln 8 9 rfl rfl rfl rfl rfl rfl rfl rfl rfl (wln 9 10 rfl rfl rfl rfl rfl rfl rfl rfl rfl (wlo 10 11 rfl rfl rfl (wo_run rfl rfl (run_pickF rfl rfl rfl) (wla 11 12 rfl rfl rfl rfl rfl rfl rfl (wl_end rfl ?_)))))
       refine nmk [4] rfl (nm_thn (ws_ret hC [_] rfl rfl ⟨rfl, trivial⟩ ?_))
       refine ⟨_, rfl, _, ((((hle1.trans hle2).trans hle3).trans hle4).trans hle5).trans hle6, (S8.pick [] [] (by decide) trivial), ?_⟩
       show Value.bool _ = _
       refine congrArg Value.bool ?_
       first | rfl | (rw [decide_eq_true_iff]; omega) | (simp_all; done)
     ·replace hg65 := of_decide_eq_false hg65
      refine wln 3 4 rfl rfl rfl rfl rfl rfl rfl rfl rfl (wln 4 5 rfl rfl rfl rfl rfl rfl rfl rfl rfl (wln 5 6 rfl rfl rfl rfl rfl rfl rfl rfl rfl (wlo 6 7 rfl rfl rfl (wo_run rfl rfl (run_pickF rfl rfl rfl) (wlm 7 8 rfl rfl rfl rfl rfl rfl rfl ?_)))))
      refine wln 8 9 rfl rfl rfl rfl rfl rfl rfl rfl rfl (wln 9 10 rfl rfl rfl rfl rfl rfl rfl rfl rfl (wlo 10 11 rfl rfl rfl (wo_run rfl rfl (run_pickF rfl rfl rfl) (wla 11 12 rfl rfl rfl rfl rfl rfl rfl (wl_end rfl ?_)))))
      refine nmk [4] rfl (nm_thn (ws_ret hC [_] rfl rfl ⟨rfl, trivial⟩ ?_))
      refine ⟨_, rfl, _, ((((hle1.trans hle2).trans hle3).trans hle4).trans hle5).trans hle6, (S8.pick [] [] (by decide) trivial), ?_⟩
      show Value.bool _ = _
      refine congrArg Value.bool ?_
      first | rfl | (rw [decide_eq_true_iff]; omega) | (simp_all; done)
    ·replace hb62 := of_decide_eq_false hb62
     refine ws_skip rfl (nmk [1, 2, 7, 8, 9, 10] rfl (nm_thn (ws_seqN SignShades_n27 SignShades_n28 rfl rfl rfl (ws_seqN SignShades_n29 SignShades_n30 rfl rfl rfl ?_))))
     have h01 : sd = 0 ∨ sd = 1 := by omega
     have hzg : errZ d sd = errG d := by unfold errZ; rw [if_pos h01]
     refine ws_region rfl (wlm 0 1 rfl rfl rfl rfl rfl rfl rfl (wlo 1 2 rfl rfl rfl (wo_run rfl rfl (run_neq rfl rfl rfl) (wl_end rfl (nmk [1, 2, 7, 8, 9, 10, 75] rfl ?_)))))
     refine nm_thn ?_
     refine ws_condN SignShades_n31 SignShades_n32 rfl rfl rfl rfl (fun hb75 => ?_) (fun hb75 => ?_)
     ·replace hb75 := of_decide_eq_true hb75
      exfalso; omega
     ·replace hb75 := of_decide_eq_false hb75
      have hgz : gzR d sd = gzL d sd := by unfold gzR; rw [if_pos (by omega)]
      have hfx : fxR d sd = gX d sd d.crs.length := by unfold fxR; rw [if_pos (by omega)]
      refine ws_skip rfl (nmk [1, 2, 7, 8, 9] rfl (nm_thn (ws_seqN SignShades_n39 SignShades_n40 rfl rfl rfl (ws_region rfl ?_))))
      refine wlo 0 1 rfl rfl rfl (wo_run rfl rfl (run_loadN (us := [_, _]) rfl rfl Try.underlying24 rfl sz24 (S8.boxcs (i := 0) rfl ⟨rfl, rfl, trivial⟩)) (wlm 1 2 rfl rfl rfl rfl rfl rfl rfl (wlo 2 3 rfl rfl rfl (wo_ct rfl rfl rfl rfl rfl rfl rfl cf10 S8 (GoeritzOf_t d sd (hdcrs.mono (Hp.le_un _ _)) (hn) (hS) ((by omega)) S8.lend) ?_))))
      intro vw9 w9 M7 hle7 S9 hRw9; clear S8
      replace hdcrs := hdcrs.mono hle7
      replace hr1 := hr1.mono hle7
      replace hr2 := hr2.mono hle7
      replace hr3 := hr3.mono hle7
      replace hr4 := hr4.mono hle7
      replace hd1 := hd1.mono hle7
      replace hr5 := hr5.mono hle7
      obtain ⟨A6, c6, vs2, rfl, hr6, hd2⟩ := hRw9
      refine wlm 3 4 rfl rfl rfl rfl rfl rfl rfl (wlo 4 5 rfl rfl rfl (wo_run rfl rfl (run_extract rfl rfl rfl) (wlo 5 6 rfl rfl rfl (wo_run rfl rfl (run_extract rfl rfl rfl) (wla 6 7 rfl rfl rfl rfl rfl rfl rfl (wla 7 8 rfl rfl rfl rfl rfl rfl rfl ?_))))))
      refine wl_end rfl (nmk [7, 8, 9, 11, 12] rfl (nm_thn (ws_seqN SignShades_n41 SignShades_n42 rfl rfl rfl (ws_region rfl ?_))))
      refine wlm 0 1 rfl rfl rfl rfl rfl rfl rfl (wlo 1 2 rfl rfl rfl (wo_run rfl rfl (run_eql rfl rfl rfl) (wlm 2 3 rfl rfl rfl rfl rfl rfl rfl ?_)))
      refine wl_split (t := 87) rfl (fun hg87 => ?_) (fun hg87 => ?_)
      ·replace hg87 := of_decide_eq_true hg87
       refine wlg 3 4 rfl rfl rfl rfl rfl rfl rfl rfl (wo_run rfl rfl (run_move rfl rfl) (wlg 4 5 rfl rfl rfl rfl rfl rfl rfl rfl (wo_run rfl rfl (run_move rfl rfl) (wlg 5 6 rfl rfl rfl rfl rfl rfl rfl rfl (wo_cq rfl rfl rfl rfl rfl rfl rfl cf11 S9 (sameTables_q (gzR d sd) (gzL d sd) (hr4.mono (Hp.le_un _ _)) (hd1.mono (Hp.le_un _ _)) (hr6.mono (Hp.le_un _ _)) (hd2.mono (Hp.le_un _ _)) (hgz) S9.lend) ?_)))))
       rintro _ w10 S10 rfl; clear S9
       refine wlo 6 7 rfl rfl rfl (wo_run rfl rfl (run_pickT rfl rfl rfl) (wlm 7 8 rfl rfl rfl rfl rfl rfl rfl (wlg 8 9 rfl rfl rfl rfl rfl rfl rfl rfl (wo_run rfl rfl (run_move rfl rfl) (wlg 9 10 rfl rfl rfl rfl rfl rfl rfl rfl (wo_run rfl rfl (run_move rfl rfl) (wlg 10 11 rfl rfl rfl rfl rfl rfl rfl rfl (wo_run rfl rfl (run_eql rfl rfl rfl) ?_))))))))
       refine wlo 11 12 rfl rfl rfl (wo_run rfl rfl (run_pickT rfl rfl rfl) (wla 12 13 rfl rfl rfl rfl rfl rfl rfl (wl_end rfl (nmk [4] rfl (nm_thn ?_)))))
       refine ws_ret hC [_] rfl rfl ⟨rfl, trivial⟩ ?_
       refine ⟨_, rfl, _, (((((hle1.trans hle2).trans hle3).trans hle4).trans hle5).trans hle6).trans hle7, (S10.pick [] [] (by decide) trivial), ?_⟩
       show Value.bool _ = _
       refine congrArg Value.bool ?_
       first | rfl | (rw [decide_eq_true_iff]; omega) | (simp_all; done)
      ·replace hg87 := of_decide_eq_false hg87
       refine wln 3 4 rfl rfl rfl rfl rfl rfl rfl rfl rfl (wln 4 5 rfl rfl rfl rfl rfl rfl rfl rfl rfl (wln 5 6 rfl rfl rfl rfl rfl rfl rfl rfl rfl (wlo 6 7 rfl rfl rfl (wo_run rfl rfl (run_pickF rfl rfl rfl) (wlm 7 8 rfl rfl rfl rfl rfl rfl rfl ?_)))))
       refine wln 8 9 rfl rfl rfl rfl rfl rfl rfl rfl rfl (wln 9 10 rfl rfl rfl rfl rfl rfl rfl rfl rfl (wln 10 11 rfl rfl rfl rfl rfl rfl rfl rfl rfl (wlo 11 12 rfl rfl rfl (wo_run rfl rfl (run_pickF rfl rfl rfl) (wla 12 13 rfl rfl rfl rfl rfl rfl rfl ?_)))))
       refine wl_end rfl (nmk [4] rfl (nm_thn (ws_ret hC [_] rfl rfl ⟨rfl, trivial⟩ ?_)))
       refine ⟨_, rfl, _, (((((hle1.trans hle2).trans hle3).trans hle4).trans hle5).trans hle6).trans hle7, (S9.pick [] [] (by decide) trivial), ?_⟩
       show Value.bool _ = _
       refine congrArg Value.bool ?_
       first | rfl | (rw [decide_eq_true_iff]; omega) | (simp_all; done)
   ·replace hg59 := of_decide_eq_false hg59
    refine wln 3 4 rfl rfl rfl rfl rfl rfl rfl rfl rfl (wln 4 5 rfl rfl rfl rfl rfl rfl rfl rfl rfl (wlo 5 6 rfl rfl rfl (wo_run rfl rfl (run_pickF rfl rfl rfl) (wl_end rfl (nmk [1, 2, 7, 8, 9, 10, 62] rfl ?_)))))
    refine nm_thn (ws_condFN SignShades_n24 rfl rfl rfl (ws_skip rfl (nmk [1, 2, 7, 8, 9, 10] rfl (nm_thn ?_))))
    refine ws_seqN SignShades_n27 SignShades_n28 rfl rfl rfl (ws_seqN SignShades_n29 SignShades_n30 rfl rfl rfl ?_)
    have h01 : sd = 0 ∨ sd = 1 := by omega
    have hzg : errZ d sd = errG d := by unfold errZ; rw [if_pos h01]
    refine ws_region rfl (wlm 0 1 rfl rfl rfl rfl rfl rfl rfl (wlo 1 2 rfl rfl rfl (wo_run rfl rfl (run_neq rfl rfl rfl) (wl_end rfl (nmk [1, 2, 7, 8, 9, 10, 75] rfl ?_)))))
    refine nm_thn ?_
    refine ws_condN SignShades_n31 SignShades_n32 rfl rfl rfl rfl (fun hb75 => ?_) (fun hb75 => ?_)
    ·replace hb75 := of_decide_eq_true hb75
     exfalso; omega
    ·replace hb75 := of_decide_eq_false hb75
     have hgz : gzR d sd = gzL d sd := by unfold gzR; rw [if_pos (by omega)]
     have hfx : fxR d sd = gX d sd d.crs.length := by unfold fxR; rw [if_pos (by omega)]
     refine ws_skip rfl (nmk [1, 2, 7, 8, 9] rfl (nm_thn (ws_seqN SignShades_n39 SignShades_n40 rfl rfl rfl (ws_region rfl ?_))))
     refine wlo 0 1 rfl rfl rfl (wo_run rfl rfl (run_loadN (us := [_, _]) rfl rfl Try.underlying24 rfl sz24 (S8.boxcs (i := 0) rfl ⟨rfl, rfl, trivial⟩)) (wlm 1 2 rfl rfl rfl rfl rfl rfl rfl (wlo 2 3 rfl rfl rfl (wo_ct rfl rfl rfl rfl rfl rfl rfl cf10 S8 (GoeritzOf_t d sd (hdcrs.mono (Hp.le_un _ _)) (hn) (hS) ((by omega)) S8.lend) ?_))))
     intro vw11 w11 M8 hle8 S11 hRw11; clear S8
     replace hdcrs := hdcrs.mono hle8
     replace hr1 := hr1.mono hle8
     replace hr2 := hr2.mono hle8
     replace hr3 := hr3.mono hle8
     replace hr4 := hr4.mono hle8
     replace hd1 := hd1.mono hle8
     replace hr5 := hr5.mono hle8
     obtain ⟨A7, c7, vs3, rfl, hr7, hd3⟩ := hRw11
     refine wlm 3 4 rfl rfl rfl rfl rfl rfl rfl (wlo 4 5 rfl rfl rfl (wo_run rfl rfl (run_extract rfl rfl rfl) (wlo 5 6 rfl rfl rfl (wo_run rfl rfl (run_extract rfl rfl rfl) (wla 6 7 rfl rfl rfl rfl rfl rfl rfl (wla 7 8 rfl rfl rfl rfl rfl rfl rfl ?_))))))
     refine wl_end rfl (nmk [7, 8, 9, 11, 12] rfl (nm_thn (ws_seqN SignShades_n41 SignShades_n42 rfl rfl rfl (ws_region rfl ?_))))
     refine wlm 0 1 rfl rfl rfl rfl rfl rfl rfl (wlo 1 2 rfl rfl rfl (wo_run rfl rfl (run_eql rfl rfl rfl) (wlm 2 3 rfl rfl rfl rfl rfl rfl rfl ?_)))
     refine wl_split (t := 87) rfl (fun hg87 => ?_) (fun hg87 => ?_)
     ·replace hg87 := of_decide_eq_true hg87
      refine wlg 3 4 rfl rfl rfl rfl rfl rfl rfl rfl (wo_run rfl rfl (run_move rfl rfl) (wlg 4 5 rfl rfl rfl rfl rfl rfl rfl rfl (wo_run rfl rfl (run_move rfl rfl) (wlg 5 6 rfl rfl rfl rfl rfl rfl rfl rfl (wo_cq rfl rfl rfl rfl rfl rfl rfl cf11 S11 (sameTables_q (gzR d sd) (gzL d sd) (hr4.mono (Hp.le_un _ _)) (hd1.mono (Hp.le_un _ _)) (hr7.mono (Hp.le_un _ _)) (hd3.mono (Hp.le_un _ _)) (hgz) S11.lend) ?_)))))
      rintro _ w12 S12 rfl; clear S11
      refine wlo 6 7 rfl rfl rfl (wo_run rfl rfl (run_pickT rfl rfl rfl) (wlm 7 8 rfl rfl rfl rfl rfl rfl rfl (wlg 8 9 rfl rfl rfl rfl rfl rfl rfl rfl (wo_run rfl rfl (run_move rfl rfl) (wlg 9 10 rfl rfl rfl rfl rfl rfl rfl rfl (wo_run rfl rfl (run_move rfl rfl) (wlg 10 11 rfl rfl rfl rfl rfl rfl rfl rfl (wo_run rfl rfl (run_eql rfl rfl rfl) ?_))))))))
      refine wlo 11 12 rfl rfl rfl (wo_run rfl rfl (run_pickT rfl rfl rfl) (wla 12 13 rfl rfl rfl rfl rfl rfl rfl (wl_end rfl (nmk [4] rfl (nm_thn ?_)))))
      refine ws_ret hC [_] rfl rfl ⟨rfl, trivial⟩ ?_
      refine ⟨_, rfl, _, (((((hle1.trans hle2).trans hle3).trans hle4).trans hle5).trans hle6).trans hle8, (S12.pick [] [] (by decide) trivial), ?_⟩
      show Value.bool _ = _
      refine congrArg Value.bool ?_
      first | rfl | (rw [decide_eq_true_iff]; omega) | (simp_all; done)
     ·replace hg87 := of_decide_eq_false hg87
      refine wln 3 4 rfl rfl rfl rfl rfl rfl rfl rfl rfl (wln 4 5 rfl rfl rfl rfl rfl rfl rfl rfl rfl (wln 5 6 rfl rfl rfl rfl rfl rfl rfl rfl rfl (wlo 6 7 rfl rfl rfl (wo_run rfl rfl (run_pickF rfl rfl rfl) (wlm 7 8 rfl rfl rfl rfl rfl rfl rfl ?_)))))
      refine wln 8 9 rfl rfl rfl rfl rfl rfl rfl rfl rfl (wln 9 10 rfl rfl rfl rfl rfl rfl rfl rfl rfl (wln 10 11 rfl rfl rfl rfl rfl rfl rfl rfl rfl (wlo 11 12 rfl rfl rfl (wo_run rfl rfl (run_pickF rfl rfl rfl) (wla 12 13 rfl rfl rfl rfl rfl rfl rfl ?_)))))
      refine wl_end rfl (nmk [4] rfl (nm_thn (ws_ret hC [_] rfl rfl ⟨rfl, trivial⟩ ?_)))
      refine ⟨_, rfl, _, (((((hle1.trans hle2).trans hle3).trans hle4).trans hle5).trans hle6).trans hle8, (S11.pick [] [] (by decide) trivial), ?_⟩
      show Value.bool _ = _
      refine congrArg Value.bool ?_
      first | rfl | (rw [decide_eq_true_iff]; omega) | (simp_all; done)
end Go.Proofs.Ythppkofceancjaa
namespace Go.Proofs.Ythppkofceancjaa
open Go.ChangeShapes Go.WideShapes Go.ChangeAt Go.RowKit Go.Joins Go.Deep
theorem sized_in {H : Type} {P : Program} {ts : List TypeId} {ds : List (DataW H)} (h : (DataW.weightsEach P ts ds).all (· ≤ reachBytes) = true) {j i : Nat} {t e : TypeId} {f : Field} {fs : Array Field} {parts : List (DataW H)} {elems spare : List (DataW H)}
    (ht : ts[j]? = some t) (hd : ds[j]? = some (.agg parts)) (hu : P.underlying t = some (.struct fs)) (hf : fs.toList[i]? = some f) (hp : parts[i]? = some (.slice elems spare)) (he : P.underlying f.type = some (.slice e)) :
    (elems.length + spare.length) * P.bytesOf e ≤ reachBytes := by
  have m1 := DataW.weights_mem_each (P := P) (ts := fs.toList.map (·.type)) (j := i) (t := f.type) (by rw [List.getElem?_map, hf]; rfl) hp ((elems.length + spare.length) * P.bytesOf e) (by simp [DataW.weights, he])
  have m2 := DataW.weights_mem_each (P := P) ht hd ((elems.length + spare.length) * P.bytesOf e) (by simp only [DataW.weights, hu]; exact m1)
  simpa using List.all_eq_true.1 h _ m2
theorem len5 (l : List Cr) : (l.flatMap codCr.f).length = l.length * 5 := by
  induction l with
  | nil => rfl
  | cons x l ih => rw [List.flatMap_cons, List.length_append, ih, codCr.hf, List.length_cons]; show 5 + _ = _; omega
theorem take1 {l : List Value} {j : Nat} {u : Value} (h : (l.drop j).take 1 = [u]) : l[j]? = some u := by
  have := congrArg (fun z => z[0]?) h
  simpa [List.getElem?_take, List.getElem?_drop] using this
theorem pick {α : Type} [Inhabited α] {m : Nat} {Q : Nat → α → Prop} (h : ∀ i, i < m → ∃ x, Q i x) : ∃ F : Nat → α, ∀ i, i < m → Q i (F i) :=
  ⟨fun i => if hi : i < m then (h i hi).choose else default, fun i hi => by
    show Q i (if hi : i < m then (h i hi).choose else default)
    rw [dif_pos hi]; exact (h i hi).choose_spec⟩
section
variable {H : Type} {enc : TypeId × Value → H} {w : World}
theorem f_int {n j : Nat} {cs : List Value} {y : DataW H × List MemPlace} (h : DataW.trod enc Try.prog w 0 (fun _ => true) true n 3 ((cs.drop j).take (Try.prog.cellsOf 3)) = some y) : ∃ a, cs[j]? = some (.int .i64 a) := by
  obtain ⟨a, e, _⟩ := DataW.trod_int Try.underlying3 h
  rw [show Try.prog.cellsOf 3 = 1 by kernel_rfl] at e
  exact ⟨a, take1 e⟩
theorem f_bool {n j : Nat} {cs : List Value} {y : DataW H × List MemPlace} (h : DataW.trod enc Try.prog w 0 (fun _ => true) true n 4 ((cs.drop j).take (Try.prog.cellsOf 4)) = some y) : ∃ a, cs[j]? = some (.bool a) := by
  obtain ⟨a, e, _⟩ := DataW.trod_bool Try.underlying4 h
  rw [show Try.prog.cellsOf 4 = 1 by kernel_rfl] at e
  exact ⟨a, take1 e⟩
set_option maxRecDepth 100000 in
theorem open_cr {n : Nat} {cs : List Value} {x : DataW H × List MemPlace} (h : DataW.trod enc Try.prog w 0 (fun _ => true) true n 55 cs = some x) : ∃ c : Cr, ∀ j u, j < 5 → (crF c)[j]? = some u → cs[j]? = some u := by
  obtain ⟨xs, k, _, _, _, hl, hf⟩ := DataW.trod_struct Try.underlying55 h
  match xs, hl with
  | [y0, y1, y2, y3, y4], _ =>
    have g0 := hf 0 _ rfl
    have g1 := hf 1 _ rfl
    have g2 := hf 2 _ rfl
    have g3 := hf 3 _ rfl
    have g4 := hf 4 _ rfl
    obtain ⟨n0, e0⟩ := f_int (j := 0) (y := y0) g0
    obtain ⟨n1, e1⟩ := f_int (j := 1) (y := y1) g1
    obtain ⟨n2, e2⟩ := f_int (j := 2) (y := y2) g2
    obtain ⟨n3, e3⟩ := f_int (j := 3) (y := y3) g3
    obtain ⟨n4, e4⟩ := f_bool (j := 4) (y := y4) g4
    refine ⟨⟨n0, n1, n2, n3, n4⟩, fun j u hj hu => ?_⟩
    match j, hj with
    | 0, _ => simp [crF] at hu; subst hu; exact e0
    | 1, _ => simp [crF] at hu; subst hu; exact e1
    | 2, _ => simp [crF] at hu; subst hu; exact e2
    | 3, _ => simp [crF] at hu; subst hu; exact e3
    | 4, _ => simp [crF] at hu; subst hu; exact e4
set_option maxRecDepth 100000 in
theorem open_Dg {v : Value} {d : DataW H} {p : List MemPlace} {b0 : Nat} (hv : Value.okWide Try.prog w .any b0 24 v) (h : DataW.Trod enc Try.prog w 0 (fun _ => true) true 24 v d p) (hlt : ∀ x ∈ p, x.block < w.heap.size)
    {ts : List TypeId} {ds : List (DataW H)} (hsz : (DataW.weightsEach Try.prog ts ds).all (· ≤ reachBytes) = true) {j : Nat} (hj : ts[j]? = some 24) (hd : ds[j]? = some d) :
    ∃ g : Dg, IsDg w w.heap.size v g := by
  obtain ⟨v0, v1, y0, y1, n, rfl, rfl, rfl, t0, t1⟩ := open_agg2 Try.underlying24 (by kernel_rfl) (by kernel_rfl) hv h
  obtain ⟨l, e1, _, _⟩ := DataW.trod_int Try.underlying3 t1
  injection e1 with e1
  subst e1
  have hs := fun es sp (hp : y0.1 = .slice es sp) => sized_in hsz hj hd Try.underlying24 (i := 0) rfl (by rw [List.getElem?_cons_zero, hp]) Try.underlying22
  rcases open_slice Try.underlying22 t0 with ⟨hcs, hx⟩ | ⟨a, len, cap, m, k, D, Pl, hcs, hb, hl, hm, hmm, hx, hi⟩
  · injection hcs with hcs
    subst hcs
    exact ⟨⟨[], l⟩, none, 0, rfl, Nat.le_refl _, Rd.nil_⟩
  · injection hcs with hcs
    subst hcs
    have hk : Try.prog.cellsOf 55 = 5 := by kernel_rfl
    have hby : Try.prog.bytesOf 55 = 40 := by kernel_rfl
    have hs := hs _ _ (by rw [hx])
    rw [hby] at hs
    simp only [if_true] at hmm
    subst hmm
    simp only [List.length_map, List.length_range, reachBytes] at hs
    obtain ⟨F, hF⟩ := pick (m := m) (Q := fun i (c : Cr) => ∀ j u, j < 5 → (crF c)[j]? = some u → w.cell? (a.add (i * 5 + j)) = some u) (fun i him => by
      obtain ⟨cs', hc, ht'⟩ := hi i him
      rw [hk] at hc
      obtain ⟨c, hc'⟩ := open_cr ht'
      obtain ⟨_, hcl, hat⟩ := World.cells?_some hc
      refine ⟨c, fun j u hj hu => ?_⟩
      rw [← Go.Deep.add_add, hat j hj]
      exact hc' j u hj hu)
    have hlen : ((List.range len).map F).length = len := by simp
    refine ⟨⟨(List.range len).map F, l⟩, some a, m, by rw [hlen], by rw [hlen]; exact hl, ?_⟩
    refine ⟨len5 _, by show _ * 40 ≤ _; rw [hlen]; omega, fun h0 => ?_⟩
    rw [hlen] at h0
    obtain ⟨b, off, spot⟩ := a
    have hspot : spot = none := by simpa [Addr.add] using World.cell?_spot (hF 0 (by omega) 0 _ (by omega) rfl)
    subst hspot
    refine ⟨b, off, rfl, hlt (.cell b off) (List.mem_append_left _ (by rw [hx]; exact List.mem_append_left _ (MemPlace.mem_row.2 ⟨0, by rw [hk]; omega, by simp⟩))), fun i u hu => ?_⟩
    have hil : i < len * 5 := by
      have := (List.getElem?_eq_some_iff.1 hu).1
      rw [len5, hlen] at this
      exact this
    have hu' := hu
    rw [show i = (i / 5) * 5 + i % 5 by omega] at hu'
    rw [show (5 : Nat) = codCr.k from rfl, flat_get codCr.hf (by rw [hlen]; show i / 5 < len; omega) (by show i % 5 < 5; omega)] at hu'
    have := hF (i / 5) (by omega) (i % 5) u (by omega) (by simpa [codCr] using hu')
    rw [show (i / 5) * 5 + i % 5 = i by omega] at this
    rcases Nat.eq_zero_or_pos i with h1 | h1
    · subst h1; simpa [Addr.add] using this
    · simpa [Addr.add, show ¬ i = 0 by omega] using this
end
end Go.Proofs.Ythppkofceancjaa
namespace Go.Proofs.Ythppkofceancjaa
open Go.ChangeShapes Go.WideShapes Go.ChangeAt Go.RowKit
theorem RdA.of_sl {α : Type} {C : Cd α} {w : World} {B c : Nat} {A : Option Addr} {xs : List α} (hc : xs.length ≤ c) (hk : 0 < C.k) (h : Sl w B C.k C.u8 A xs.length (xs.flatMap C.f)) : RdA C (hp w) A c xs := by
  refine ⟨hc, h.2.1, fun h0 => ?_⟩
  obtain ⟨b, off, rfl, _, hat⟩ := h.2.2 h0
  refine ⟨rfl, ?_⟩
  have hlen : 0 < (xs.flatMap C.f).length := by rw [flat_len C.hf]; exact Nat.mul_pos h0 hk
  have h1 := hat 0 _ (List.getElem?_eq_getElem hlen)
  show ∃ cs T fz, w.heap[b]? = some (.cells cs T fz) ∧ ∀ j u, (xs.flatMap C.f)[j]? = some u → cs[off + j]? = some u
  unfold World.cell? at h1
  split at h1
  · rename_i cs T fz hb
    refine ⟨cs, T, fz, hb, fun j u hu => ?_⟩
    have := hat j u hu
    rw [cell_of_row w b _ cs T fz hb] at this
    exact this
  · cases h1
theorem IsDg.rd {w : World} {B : Nat} {v : Value} {d : Dg} (h : IsDg w B v d) : ∃ A c, v = .agg [.slice A d.crs.length c, .int .i64 d.loops].toArray ∧ RdA cdCr (hp w) A c d.crs := by
  obtain ⟨A, c, rfl, hc, h⟩ := h
  exact ⟨A, c, rfl, RdA.of_sl (C := cdCr) hc (by decide) h⟩
end Go.Proofs.Ythppkofceancjaa
namespace Go.Proofs.Ythppkofceancjaa
open Go.ChangeShapes Go.WideShapes Go.ChangeAt Go.RowKit
theorem lawSignShades (v0 : Value) (x0 : Dg) (x1 : Int) (W : World) (h0 : IsDg W W.heap.size v0 x0) :
    Calls Try.prog 3 #[v0, .int .i64 x1] W fun e W' => e = .returned (.bool true) ∧ Below W.heap.size W W' := by
  obtain ⟨A0, c0, rfl, r0⟩ := h0.rd
  exact law_of_ct (SignShades_t x0 x1 r0 (SH.start W))
set_option maxRecDepth 100000 in
theorem signShades_lifted (os : Os) (started : os.Started) (H : Type) (enc : TypeId × Value → H) :
    ReturnsInHanded {} Try.checked os 3 .any (Rows.signShadesSpec.pre6 enc Try.prog Try.f3 Rows.signShadesRow.domain false) (Rows.signShadesSpec.post enc Try.prog Try.f3 false true false false) := by
  refine law_lift (C := Try.checked) (tb := 4) (by kernel_rfl) started (by kernel_rfl) Try.func3
    (ChangeSpec.witness6 (enc := enc) (C := Try.checked) false ⟨#[], #[.agg #[.slice none 0 0, .int .i64 0], .int .i64 0], []⟩ 8 (by kernel_rfl) (by kernel_rfl) (by kernel_rfl) (by kernel_rfl))
    rfl (by kernel_rfl) (by kernel_rfl) rfl Try.underlying4 ?_ ?_
  · intro ds hds
    match ds, hds with
    | [d0, d1], _ => rfl
  · intro W base args ds p hval hA _ hlt hsz
    rw [Try.params3] at hA hval hsz
    obtain ⟨v0, vs0, d0, ds0, p0, q0, hargs, rfl, rfl, h0, r0⟩ := trodAll_cons hA
    obtain ⟨v1, vs1, d1, ds1, p1, q1, rfl, rfl, rfl, h1, r1⟩ := trodAll_cons r0
    obtain ⟨rfl, rfl, rfl⟩ := trodAll_nil r1
    obtain rfl : args = #[v0, v1] := by cases args; simp_all
    obtain ⟨a0, i0⟩ := open_Dg (hval 0 24 v0 rfl rfl) h0 (fun x hx => hlt x (by simp [hx])) hsz (j := 0) rfl rfl
    obtain ⟨a1, rfl, rfl, rfl, w1⟩ := open_int Try.underlying3 (hval 1 3 v1 rfl rfl) h1
    exact lawSignShades v0 a0 a1 W i0
theorem signShades_holds : Rows.SignShadesSaid :=
  OpenClaim.holds_of_wide 3 Try.f3 rfl rfl rfl rfl rfl rfl rfl ⟨rfl, rfl, rfl, rfl, rfl⟩ rfl rfl rfl rfl rfl (by kernel_rfl) Try.func3 (by kernel_rfl)
    (of_decide_eq_true (by kernel_rfl)) (by unfold Func.isWrapper; first | (rw [if_pos (by decide +kernel)]; kernel_rfl) | (rw [if_neg (by decide +kernel)]; exact ⟨rfl, rfl⟩))
    (fun os started H enc _ => signShades_lifted os started H enc)
#print axioms signShades_holds
end Go.Proofs.Ythppkofceancjaa
