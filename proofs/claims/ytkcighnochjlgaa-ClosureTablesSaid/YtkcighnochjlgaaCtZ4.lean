/- Part 4 of the proof of the law ClosureTables: the walks through its functions and the plain laws that they need. -/
import Derived.Test.YtkcighnochjlgaaCtZ3
import Derived.Lib.AppendZeros
set_option linter.unusedSimpArgs false
set_option linter.unusedVariables false
namespace Go.Proofs.Ytkcighnochjlgaa
open Go.ChangeShapes Go.WideShapes Go.ChangeAt Go.RowKit
theorem inc_ext : ∀ {a b : List Int}, a.Pairwise (fun s t => s < t) → b.Pairwise (fun s t => s < t) → (∀ t, t ∈ a ↔ t ∈ b) → a = b
 | [], [], _, _, _ => rfl
 | [], t :: b, _, _, h => by have := (h t).2 (by simp); simp at this
 | t :: a, [], _, _, h => by have := (h t).1 (by simp); simp at this
 | s :: a, t :: b, ha, hb, h => by
  obtain ⟨a1, a2⟩ := List.pairwise_cons.1 ha
  obtain ⟨b1, b2⟩ := List.pairwise_cons.1 hb
  have hst : s = t := by
   rcases List.mem_cons.1 ((h s).1 (by simp)) with e | h1
   ·exact e
   ·rcases List.mem_cons.1 ((h t).2 (by simp)) with e | h2
    ·exact e.symm
    ·have := a1 t h2; have := b1 s h1; omega
  subst hst
  refine congrArg _ (inc_ext a2 b2 fun u => ⟨fun hu => ?_, fun hu => ?_⟩)
  ·rcases List.mem_cons.1 ((h u).1 (by simp [hu])) with e | h1
   ·subst e; have := a1 u hu; omega
   ·exact h1
  ·rcases List.mem_cons.1 ((h u).2 (by simp [hu])) with e | h1
   ·subst e; have := b1 u hu; omega
   ·exact h1
theorem srt_eq {a b : List Int} (h : a.Perm b) (hn : b.Nodup) : srt a = srt b := inc_ext (srt_inc (h.nodup_iff.2 hn)) (srt_inc hn) fun t => by rw [srt_mem, srt_mem, h.mem_iff]
theorem Ents.at_ {es dn l1 l2 : List (Int × Int)} {B : Nat} (h : Ents es B) {k v : Int} {lf : List (Int × Int)} (hp : (dn ++ lf).Perm es) (hl : lf = l1 ++ (k, v) :: l2) : (-(B : Int) ≤ k ∧ k ≤ B) ∧ wr v = v := h.2 (k, v) (hp.mem_iff.1 (by rw [hl]; simp))
theorem mk_snoc (dn : List (Int × Int)) (k v : Int) : mk (dn ++ [(k, v)]) = mk dn + mono k v := by
 rw [mk_append]
 show _ + (mono k v + Pol.o) = _
 rw [Pol.add_zero]
theorem plus_step {es dn ws : List (Int × Int)} {k v : Int} (h : mk es = mk ws + mk dn) : mk (mp k (wr ((mg k es).getD 0 + v)) es) = mk ws + mk (dn ++ [(k, v)]) := by
 rw [mk_mp_add, h, mk_snoc, Pol.add_assoc]
theorem times_step {es dn : List (Int × Int)} {p : Pol} {e c k v : Int} (h : mk es = p + mono e c * mk dn) : mk (mp (e + k) (wr ((mg (e + k) es).getD 0 + wr (c * v))) es) = p + mono e c * mk (dn ++ [(k, v)]) := by
 rw [mk_mp_add, h, mk_snoc, Pol.mul_add, mono_mul, Pol.add_assoc]
 exact congrArg _ (congrArg _ (mono_congr rfl (md_wr _)))
noncomputable def Collect_n0 : Code := Try.f133.body.getD .skip
noncomputable def Collect_n1 : Code := cL Collect_n0
noncomputable def Collect_n2 : Code := cR Collect_n0
noncomputable def Collect_n3 : Code := cL Collect_n2
noncomputable def Collect_n4 : Code := cR Collect_n2
set_option maxRecDepth 10000 in
theorem Collect_o {w : World} {M : Hp} {X : Fr} {es : List (Int × Int)} {gm b : Nat} (hm : MpOk (Value.int .i64) (Value.int .i64) gm es M) (hbx : BxM M b 84 [.map (some gm)]) (hks : (es.map Prod.fst).length ≤ 2199023255553) (S : SH w M X []) : Co Try.prog 133 [.func (.func 135) #[] [.pointer (some ⟨b, 0, none⟩)].toArray] w M X (fun u N => ∃ ks, ks.Perm (es.map Prod.fst) ∧ N = [Rs.row cdInt u ks]) := by
 unfold Co
 refine calls_in (b := Collect_n0) Try.func133 rfl Try.ntmps133 rfl (fun C hC => ?_)
 refine ws_sub [(0, _)] ⟨rfl, trivial⟩ ?_
 refine ws_seqN Collect_n1 Collect_n2 rfl rfl rfl ?_
 refine ws_region rfl ?_
 refine wla 0 1 rfl rfl rfl rfl rfl rfl rfl ?_
 refine wl_end rfl ?_
 refine nm_sub [(0, _)] ⟨rfl, trivial⟩ ?_
 refine nm_thn ?_
 refine ws_seqN Collect_n3 Collect_n4 rfl rfl rfl ?_
 refine ws_region rfl ?_
 refine wlm 0 1 rfl rfl rfl rfl rfl rfl rfl ?_
 refine wlo 1 2 rfl rfl rfl (wo_co rfl rfl rfl rfl rfl rfl rfl cf151 S (InF.AppendSeq_o hm hbx hks S.lend) ?_)
 intro vw1 w1 Nw1 S1 hRw1; clear S
 obtain ⟨ksw1, hksw1, rfl⟩ := hRw1
 change SH _ _ _ [_] at S1
 refine wla 2 3 rfl rfl rfl rfl rfl rfl rfl ?_
 refine wl_end rfl ?_
 refine nm_sub [(2, _)] ⟨rfl, trivial⟩ ?_
 refine nm_thn ?_
 refine ws_ret hC [_] rfl rfl ⟨rfl, trivial⟩ ?_
 exact ⟨_, rfl, _, S1.pick [0] [_] (by decide) ⟨rfl, trivial⟩, _, hksw1, rfl⟩
noncomputable def Sorted_n0 : Code := Try.f99.body.getD .skip
noncomputable def Sorted_n1 : Code := cL Sorted_n0
noncomputable def Sorted_n2 : Code := cR Sorted_n0
noncomputable def Sorted_n3 : Code := cL Sorted_n2
noncomputable def Sorted_n4 : Code := cR Sorted_n2
noncomputable def Sorted_n5 : Code := cL Sorted_n4
noncomputable def Sorted_n6 : Code := cR Sorted_n4
noncomputable def Sorted_n7 : Code := cL Sorted_n6
noncomputable def Sorted_n8 : Code := cR Sorted_n6
set_option maxRecDepth 10000 in
theorem Sorted_o {w : World} {M : Hp} {X : Fr} {es : List (Int × Int)} {gm b : Nat} (hm : MpOk (Value.int .i64) (Value.int .i64) gm es M) (hbx : BxM M b 84 [.map (some gm)]) (hks : (es.map Prod.fst).length ≤ 2199023255553) (hn : (es.map Prod.fst).Nodup) (S : SH w M X []) : Co Try.prog 99 [.func (.func 135) #[] [.pointer (some ⟨b, 0, none⟩)].toArray] w M X (fun u N => N = [Rs.row cdInt u (srt (es.map Prod.fst))]) := by
 unfold Co
 refine calls_in (b := Sorted_n0) Try.func99 rfl Try.ntmps99 rfl (fun C hC => ?_)
 refine ws_sub [(0, _)] ⟨rfl, trivial⟩ ?_
 refine ws_seqN Sorted_n1 Sorted_n2 rfl rfl rfl ?_
 refine ws_region rfl ?_
 refine wla 0 1 rfl rfl rfl rfl rfl rfl rfl ?_
 refine wl_end rfl ?_
 refine nm_sub [(0, _)] ⟨rfl, trivial⟩ ?_
 refine nm_thn ?_
 refine ws_seqN Sorted_n3 Sorted_n4 rfl rfl rfl ?_
 refine ws_region rfl ?_
 refine wlm 0 1 rfl rfl rfl rfl rfl rfl rfl ?_
 refine wlo 1 2 rfl rfl rfl (wo_co rfl rfl rfl rfl rfl rfl rfl cf133 S (Collect_o hm hbx hks S.lend) ?_)
 intro vw1 w1 Nw1 S1 hRw1; clear S
 obtain ⟨ksw1, hksw1, rfl⟩ := hRw1
 change SH _ _ _ [_] at S1
 refine wla 2 3 rfl rfl rfl rfl rfl rfl rfl ?_
 refine wl_end rfl ?_
 refine nm_sub [(3, _)] ⟨rfl, trivial⟩ ?_
 refine nm_thn ?_
 refine ws_seqN Sorted_n5 Sorted_n6 rfl rfl rfl ?_
 refine ws_region rfl ?_
 refine wlm 0 1 rfl rfl rfl rfl rfl rfl rfl ?_
 refine wlo 1 2 rfl rfl rfl (wo_c1 rfl rfl rfl rfl rfl rfl rfl cf134 S1 (i := 0) rfl (sort_w (by have := hksw1.length_eq; omega) (S1.lend1 (i := 0) rfl)) ?_)
 rintro vw2 w2 _ _ - S2 ⟨rfl, rfl, rfl⟩; clear S1
 change SH _ _ _ [_] at S2
 refine wl_end rfl ?_
 refine nm_sub [(3, _)] ⟨rfl, trivial⟩ ?_
 refine nm_thn ?_
 refine ws_seqN Sorted_n7 Sorted_n8 rfl rfl rfl ?_
 refine ws_region rfl ?_
 refine wlm 0 1 rfl rfl rfl rfl rfl rfl rfl ?_
 refine wla 1 2 rfl rfl rfl rfl rfl rfl rfl ?_
 refine wl_end rfl ?_
 refine nm_sub [(2, _)] ⟨rfl, trivial⟩ ?_
 refine nm_thn ?_
 refine ws_ret hC [_] rfl rfl ⟨rfl, trivial⟩ ?_
 exact ⟨_, rfl, _, S2.pick [0] [_] (by decide) ⟨rfl, trivial⟩, by rw [srt_eq hksw1 hn]; rfl⟩
noncomputable def Form_n0 : Code := Try.f61.body.getD .skip
noncomputable def Form_n1 : Code := cL Form_n0
noncomputable def Form_n2 : Code := cR Form_n0
noncomputable def Form_n3 : Code := cL Form_n2
noncomputable def Form_n4 : Code := cR Form_n2
noncomputable def Form_n5 : Code := cL Form_n4
noncomputable def Form_n6 : Code := cR Form_n4
noncomputable def Form_n7 : Code := cL Form_n5
noncomputable def Form_n8 : Code := cR Form_n5
noncomputable def Form_n9 : Code := cL Form_n8
noncomputable def Form_n10 : Code := cL Form_n9
noncomputable def Form_n11 : Code := cL Form_n10
noncomputable def Form_n12 : Code := cR Form_n10
noncomputable def Form_n13 : Code := cL Form_n12
noncomputable def Form_n14 : Code := cR Form_n12
noncomputable def Form_n15 : Code := cL Form_n13
noncomputable def Form_n16 : Code := cR Form_n13
noncomputable def Form_n17 : Code := cL Form_n14
noncomputable def Form_n18 : Code := cR Form_n14
noncomputable def Form_n19 : Code := cL Form_n17
noncomputable def Form_n20 : Code := cL Form_n19
noncomputable def Form_n21 : Code := cR Form_n19
noncomputable def Form_n22 : Code := cL Form_n21
noncomputable def Form_n23 : Code := cR Form_n21
noncomputable def Form_n24 : Code := cL Form_n23
noncomputable def Form_n25 : Code := cR Form_n23
noncomputable def Form_n26 : Code := cL Form_n6
noncomputable def Form_n27 : Code := cR Form_n6
set_option maxRecDepth 10000 in
theorem Form_t {w : World} {M : Hp} {X : Fr} (es : List (Int × Int)) {ges : Nat} (hmes : MpOk (Value.int .i64) (Value.int .i64) ges es M) (B : Nat) (hes : Ents es B) (hB : B ≤ 1099511627776) (S : SH w M X []) : Ct Try.prog 61 [.map (some ges)] w M X (LsE (formL es)) := by
 unfold Ct
 have hks : (es.map Prod.fst).length ≤ 2199023255553 := by have := ents_len hes; rw [List.length_map]; omega
 refine calls_in (b := Form_n0) Try.func61 rfl Try.ntmps61 rfl (fun C hC => ?_)
 refine ws_sub [(0, _)] ⟨rfl, trivial⟩ ?_
 refine ws_seqN Form_n1 Form_n2 rfl rfl rfl ?_
 refine ws_region rfl ?_
 refine wla 0 1 rfl rfl rfl rfl rfl rfl rfl ?_
 refine wl_end rfl ?_
 refine nm_sub [(0, _)] ⟨rfl, trivial⟩ ?_
 refine nm_thn ?_
 refine ws_seqN Form_n3 Form_n4 rfl rfl rfl ?_
 refine ws_region rfl ?_
 refine wla 0 1 rfl rfl rfl rfl rfl rfl rfl ?_
 refine wl_end rfl ?_
 refine nm_thn ?_
 refine ws_seqN Form_n5 Form_n6 rfl rfl rfl ?_
 refine ws_seqN Form_n7 Form_n8 rfl rfl rfl ?_
 refine ws_region rfl ?_
 refine wlm 0 1 rfl rfl rfl rfl rfl rfl rfl ?_
 refine wlo 1 2 rfl rfl rfl (wo_ct rfl rfl rfl rfl rfl rfl rfl cf100 S (Keys_t es hmes S.lend) ?_)
 intro vw1 w1 M1 hle1 S1 hRw1; clear S
 replace hmes := hmes.mono hle1
 obtain ⟨bk1, rfl, hbx1⟩ := hRw1
 refine wlo 2 3 rfl rfl rfl (wo_co rfl rfl rfl rfl rfl rfl rfl cf99 S1 (Sorted_o hmes hbx1 hks hes.1 S1.lend) ?_)
 intro vw2 w2 Nw2 S2 hRw2; clear S1
 obtain rfl := hRw2
 change SH _ _ _ [_] at S2
 refine wlo 3 4 rfl rfl rfl (wo_run rfl rfl (run_lenR (C := cdInt) (i := 0) rfl rfl rfl rfl rfl rfl sl36 S2 rfl) ?_)
 refine wlm 4 5 rfl rfl rfl rfl rfl rfl rfl ?_
 refine wl_end rfl ?_
 refine nm_sub [(0, _), (3, _), (8, _), (9, _), (10, _)] ⟨rfl, rfl, rfl, rfl, rfl, trivial⟩ ?_
 refine nm_thn ?_
 refine ws_blockN Form_n9 0 rfl rfl rfl ?_
 have S3 := S2.nilrow cdTm; clear S2
 refine ws_loopE (fun mx_ ax_ wx_ => ∃ (i : Nat) (acc : List Tm) (vro : Value), mx_ = (srt (es.map Prod.fst)).length - i ∧ Env 28 [(0, .map (some ges)), (3, vro), (8, vw2), (9, .int .i64 ((srt (es.map Prod.fst)).length : Int)), (10, .int .i64 (i : Int))] ax_ ∧ SH wx_ M1 X [Rs.row cdTm vro acc, Rs.row cdInt vw2 (srt (es.map Prod.fst))] ∧ i ≤ (srt (es.map Prod.fst)).length ∧ acc = fm es ((srt (es.map Prod.fst)).take i)) rfl ?_ ?_
 ·intro ax_ hax_
  refine ⟨_, ⟨0, _, _, rfl, hax_.sub ⟨rfl, rfl, rfl, rfl, rfl, trivial⟩, S3.pick [0, 1] [_, _] (by decide) ⟨rfl, rfl, trivial⟩, ?hq1f0, ?hq1f1⟩⟩
  case hq1f0 => omega
  case hq1f1 => rfl
 ·rintro m1 a1 w3 ⟨i, acc, vro, rfl, he1, S4, hi, hac⟩
  clear S3
  refine ws_in he1 (c := Form_n10) rfl ?_
  clear he1 a1
  have hal : acc.length ≤ i := by rw [hac]; exact Nat.le_trans (fm_len _ _) (by rw [List.length_take]; omega)
  have hsl := srt_len (es.map Prod.fst)
  refine ws_seqN Form_n11 Form_n12 rfl rfl rfl ?_
  refine ws_region rfl ?_
  refine wlo 0 1 rfl rfl rfl (wo_run rfl rfl (run_lss rfl rfl rfl) ?_)
  refine wl_end rfl ?_
  refine nm_thn ?_
  refine ws_seqN Form_n13 Form_n14 rfl rfl rfl ?_
  refine ws_condN Form_n15 Form_n16 rfl rfl rfl rfl (fun hb11 => ?_) (fun hb11 => ?_)
  ·have hb11 := of_decide_eq_true hb11
   refine ws_skip rfl ?_
   refine nm_sub [(0, _), (3, _), (8, _), (9, _), (10, _)] ⟨rfl, rfl, rfl, rfl, rfl, trivial⟩ ?_
   refine nm_thn ?_
   refine ws_seqN Form_n17 Form_n18 rfl rfl rfl ?_
   refine ws_blockN Form_n19 1 rfl rfl rfl ?_
   refine ws_seqN Form_n20 Form_n21 rfl rfl rfl ?_
   refine ws_region rfl ?_
   refine wlo 0 1 rfl rfl rfl (wo_run rfl rfl (run_indexR (C := cdInt) (i := 1) i rfl rfl rfl sl36 S4 rfl (by first | rfl | omega) (by first | omega | (simp only [lens]; omega))) ?_)
   refine wlo 1 2 rfl rfl rfl (wo_run rfl rfl (run_load1 rfl rfl Try.underlying3 rfl (S4.rowc (i := 1) (e := i) (j := 0) rfl (by first | omega | (simp only [lens]; omega)) rfl rfl)) ?_)
   refine wla 2 3 rfl rfl rfl rfl rfl rfl rfl ?_
   refine wl_end rfl ?_
   refine nm_sub [(0, _), (3, _), (8, _), (9, _), (10, _), (5, _)] ⟨rfl, rfl, rfl, rfl, rfl, rfl, trivial⟩ ?_
   refine nm_thn ?_
   refine ws_seqN Form_n22 Form_n23 rfl rfl rfl ?_
   refine ws_region rfl ?_
   refine wlm 0 1 rfl rfl rfl rfl rfl rfl rfl ?_
   refine wlm 1 2 rfl rfl rfl rfl rfl rfl rfl ?_
   refine wlo 2 3 rfl rfl rfl (wo_run rfl rfl (run_lookupM (kc := (Value.int .i64)) (vc := (Value.int .i64)) (es := es) (k := (ga (srt (es.map Prod.fst)) i)) (zv := 0) rfl rfl rfl Try.underlying84 mk3 zr3 hmes S4.m) ?_)
   refine wlo 3 4 rfl rfl rfl (wo_run rfl rfl (run_neq rfl rfl rfl) ?_)
   refine wl_end rfl ?_
   refine nm_sub [(0, _), (3, _), (8, _), (9, _), (10, _), (5, _), (17, _)] ⟨rfl, rfl, rfl, rfl, rfl, rfl, rfl, trivial⟩ ?_
   refine nm_thn ?_
   refine ws_condN Form_n24 Form_n25 rfl rfl rfl rfl (fun hb17 => ?_) (fun hb17 => ?_)
   ·have hb17 := of_decide_eq_true hb17
    refine ws_region rfl ?_
    refine wlm 0 1 rfl rfl rfl rfl rfl rfl rfl ?_
    refine wlm 1 2 rfl rfl rfl rfl rfl rfl rfl ?_
    refine wlm 2 3 rfl rfl rfl rfl rfl rfl rfl ?_
    refine wlm 3 4 rfl rfl rfl rfl rfl rfl rfl ?_
    refine wlo 4 5 rfl rfl rfl (wo_run rfl rfl (run_lookupM (kc := (Value.int .i64)) (vc := (Value.int .i64)) (es := es) (k := (ga (srt (es.map Prod.fst)) i)) (zv := 0) rfl rfl rfl Try.underlying84 mk3 zr3 hmes S4.m) ?_)
    refine wlo 5 6 rfl rfl rfl (wo_run rfl rfl (run_build (l := [_, _]) rfl rfl st86 rfl rfl) ?_)
    refine wlo 6 7 rfl rfl rfl (wo_buildSlice1 (C := cdTm) (l := [_, _]) rfl rfl rfl rfl sl22 rfl rfl rfl rfl S4 ?_)
    intro gb1 w4 S5; clear S4
    refine wlo 7 8 rfl rfl rfl (wo_append1 (C := cdTm) (i := 1) (q := 0) (⟨ga (srt (es.map Prod.fst)) i, (mg (ga (srt (es.map Prod.fst)) i) es).getD 0⟩ : Tm) rfl rfl rfl rfl rfl rfl rfl rfl sl22 S5 rfl rfl rfl (by show (_ + 1) * 16 ≤ _; omega) ?_)
    intro vro1 w5 S6; clear S5
    have S7 := S6.pick [1, 2] [_, _] (by decide) ⟨rfl, rfl, trivial⟩; clear S6
    refine wla 8 9 rfl rfl rfl rfl rfl rfl rfl ?_
    refine wl_end rfl ?_
    refine nm_blk ?_
    refine nm_sub [(0, _), (3, _), (8, _), (9, _), (10, _)] ⟨rfl, rfl, rfl, rfl, rfl, trivial⟩ ?_
    refine nm_thn ?_
    refine ws_region rfl ?_
    refine wlo 0 1 rfl rfl rfl (wo_run rfl rfl (run_add rfl rfl rfl (by first | omega | (simp only [lens]; omega))) ?_)
    refine wlm 1 2 rfl rfl rfl rfl rfl rfl rfl ?_
    refine wl_end rfl ?_
    refine nm_lp ?_
    intro ax_ hax_
    refine ⟨_, ?hq2m, ⟨i + 1, _, _, rfl, hax_.sub ⟨rfl, rfl, rfl, rfl, rfl, trivial⟩, S7.pick [0, 1] [_, _] (by decide) ⟨rfl, rfl, trivial⟩, ?hq2f0, ?hq2f1⟩⟩
    case hq2f0 => omega
    case hq2f1 => (rw [take_ga _ i (by omega), fm_snoc, ← hac]; first | (rw [if_neg (by assumption)]) | (rw [if_pos (by omega), List.append_nil]))
    case hq2m => omega
   ·have hb17 := of_decide_eq_false hb17
    refine ws_skip rfl ?_
    refine nm_blk ?_
    refine nm_sub [(0, _), (3, _), (8, _), (9, _), (10, _)] ⟨rfl, rfl, rfl, rfl, rfl, trivial⟩ ?_
    refine nm_thn ?_
    refine ws_region rfl ?_
    refine wlo 0 1 rfl rfl rfl (wo_run rfl rfl (run_add rfl rfl rfl (by first | omega | (simp only [lens]; omega))) ?_)
    refine wlm 1 2 rfl rfl rfl rfl rfl rfl rfl ?_
    refine wl_end rfl ?_
    refine nm_lp ?_
    intro ax_ hax_
    refine ⟨_, ?hq3m, ⟨i + 1, _, _, rfl, hax_.sub ⟨rfl, rfl, rfl, rfl, rfl, trivial⟩, S4.pick [0, 1] [_, _] (by decide) ⟨rfl, rfl, trivial⟩, ?hq3f0, ?hq3f1⟩⟩
    case hq3f0 => omega
    case hq3f1 => (rw [take_ga _ i (by omega), fm_snoc, ← hac]; first | (rw [if_neg (by assumption)]) | (rw [if_pos (by omega), List.append_nil]))
    case hq3m => omega
  ·have hb11 := of_decide_eq_false hb11
   refine ws_exit rfl rfl ?_
   refine nm_sub [(3, _)] ⟨rfl, trivial⟩ ?_
   refine nm_thn ?_
   refine ws_seqN Form_n26 Form_n27 rfl rfl rfl ?_
   have hsl := srt_len (es.map Prod.fst)
   refine ws_region rfl ?_
   refine wlm 0 1 rfl rfl rfl rfl rfl rfl rfl ?_
   refine wla 1 2 rfl rfl rfl rfl rfl rfl rfl ?_
   refine wl_end rfl ?_
   refine nm_sub [(2, _)] ⟨rfl, trivial⟩ ?_
   refine nm_thn ?_
   have hal : acc.length ≤ 2199023255553 := by rw [hac]; exact Nat.le_trans (fm_len _ _) (by rw [List.length_take]; omega)
   obtain ⟨M2, hle3, S8, ⟨A1, c1, e1, hr1⟩⟩ := S4.pubrow (i := 0) (H' := [_, _]) rfl rfl (by show _ * 16 ≤ _; first | omega | (simp only [lens]; omega))
   clear S4; subst e1
   replace hmes := hmes.mono hle3
   replace hbx1 := hbx1.mono hle3
   refine ws_ret hC [_] rfl rfl ⟨rfl, trivial⟩ ?_
   refine ⟨_, rfl, _, hle1.trans hle3, (S8.pick [] [] (by decide) trivial), ?_⟩
   obtain rfl : i = (srt (es.map Prod.fst)).length := by omega
   rw [List.take_length] at hac
   have e9 : formL es = acc := hac.symm
   rw [e9]
   exact ⟨_, _, rfl, hr1⟩
noncomputable def Plus_n0 : Code := Try.f56.body.getD .skip
noncomputable def Plus_n1 : Code := cL Plus_n0
noncomputable def Plus_n2 : Code := cR Plus_n0
noncomputable def Plus_n3 : Code := cL Plus_n2
noncomputable def Plus_n4 : Code := cR Plus_n2
noncomputable def Plus_n5 : Code := cL Plus_n4
noncomputable def Plus_n6 : Code := cR Plus_n4
noncomputable def Plus_n7 : Code := cL Plus_n5
noncomputable def Plus_n8 : Code := cR Plus_n5
noncomputable def Plus_n9 : Code := cL Plus_n8
noncomputable def Plus_n10 : Code := cL Plus_n9
noncomputable def Plus_n11 : Code := cL Plus_n10
noncomputable def Plus_n12 : Code := cR Plus_n10
noncomputable def Plus_n13 : Code := cL Plus_n12
noncomputable def Plus_n14 : Code := cR Plus_n12
noncomputable def Plus_n15 : Code := cL Plus_n13
noncomputable def Plus_n16 : Code := cR Plus_n13
noncomputable def Plus_n17 : Code := cL Plus_n6
noncomputable def Plus_n18 : Code := cR Plus_n6
noncomputable def Plus_n19 : Code := cL Plus_n14
noncomputable def Plus_n20 : Code := cL Plus_n19
noncomputable def Plus_n21 : Code := cR Plus_n19
set_option maxRecDepth 10000 in
theorem Plus_t {w : World} {M : Hp} {X : Fr} (ws : List (Int × Int)) {gws : Nat} (vs : List (Int × Int)) {gvs : Nat} (hmws : MpOk (Value.int .i64) (Value.int .i64) gws ws M) (hmvs : MpOk (Value.int .i64) (Value.int .i64) gvs vs M) (B : Nat) (hws : Ents ws B) (hvs : Ents vs B) (S : SH w M X []) : Ct Try.prog 56 [.map (some gws), .map (some gvs)] w M X (WkR B (mk ws + mk vs)) := by
 unfold Ct
 refine calls_in (b := Plus_n0) Try.func56 rfl Try.ntmps56 rfl (fun C hC => ?_)
 refine ws_sub [(0, _), (1, _)] ⟨rfl, rfl, trivial⟩ ?_
 refine ws_seqN Plus_n1 Plus_n2 rfl rfl rfl ?_
 refine ws_region rfl ?_
 refine wla 0 1 rfl rfl rfl rfl rfl rfl rfl ?_
 refine wl_end rfl ?_
 refine nm_sub [(0, _), (1, _)] ⟨rfl, rfl, trivial⟩ ?_
 refine nm_thn ?_
 refine ws_seqN Plus_n3 Plus_n4 rfl rfl rfl ?_
 refine ws_region rfl ?_
 refine wlm 0 1 rfl rfl rfl rfl rfl rfl rfl ?_
 refine wlo 1 2 rfl rfl rfl (wo_co rfl rfl rfl rfl rfl rfl rfl cf97 S (Clone_o (hmws.mono (Hp.le_un _ _)) S.lend) ?_)
 intro vw1 w1 Nw1 S1 hRw1; clear S
 obtain ⟨gmc1, rfl, rfl⟩ := hRw1
 change SH _ _ _ [_] at S1
 refine wla 2 3 rfl rfl rfl rfl rfl rfl rfl ?_
 refine wl_end rfl ?_
 refine nm_sub [(1, _), (5, _)] ⟨rfl, rfl, trivial⟩ ?_
 refine nm_thn ?_
 refine ws_seqN Plus_n5 Plus_n6 rfl rfl rfl ?_
 refine ws_seqN Plus_n7 Plus_n8 rfl rfl rfl ?_
 refine ws_region rfl ?_
 refine wlm 0 1 rfl rfl rfl rfl rfl rfl rfl ?_
 obtain ⟨arr1, clk1, hE1⟩ := hmvs.ents
 refine wlo 1 2 rfl rfl rfl (wo_range rfl rfl rfl rfl Try.underlying84 S1 hE1 S1.m ?_)
 intro r1 w2 S2; clear S1
 refine wl_end rfl ?_
 refine nm_sub [(5, _), (11, _)] ⟨rfl, rfl, trivial⟩ ?_
 refine nm_thn ?_
 refine ws_blockN Plus_n9 0 rfl rfl rfl ?_
 refine ws_loopE (fun mx_ ax_ wx_ => ∃ (sn : Array Nat) (dn : List (Int × Int)) (lf : List (Int × Int)) (es : List (Int × Int)), mx_ = lf.length ∧ Env 23 [(5, .map (some gmc1)), (11, .pointer (some ⟨r1, 0, none⟩))] ax_ ∧ SH wx_ M X [Rs.itr gvs clk1 r1 sn, Rs.mp (Value.int .i64) (Value.int .i64) gmc1 es] ∧ Lft (Value.int .i64) (Value.int .i64) arr1 sn lf ∧ (dn ++ lf).Perm vs ∧ Ents es B ∧ mk es = mk ws + mk dn) rfl ?_ ?_
 ·intro ax_ hax_
  refine ⟨_, ⟨#[], [], vs, ws, rfl, hax_.sub ⟨rfl, rfl, trivial⟩, S2.pick [0, 1] [_, _] (by decide) ⟨rfl, rfl, trivial⟩, ?hq1f0, ?hq1f1, ?hq1f2, ?hq1f3⟩⟩
  case hq1f0 => exact hE1.lft
  case hq1f1 => exact List.Perm.refl _
  case hq1f2 => exact hws
  case hq1f3 => exact (Pol.add_zero _).symm
 ·rintro m1 a1 w3 ⟨sn, dn, lf, es, rfl, he1, S3, hlf, hpm, hes, hmk⟩
  clear S2
  refine ws_in he1 (c := Plus_n10) rfl ?_
  clear he1 a1
  refine ws_seqN Plus_n11 Plus_n12 rfl rfl rfl ?_
  refine ws_region rfl ?_
  refine wlo 0 1 rfl rfl rfl (wo_next (i := 0) rfl rfl rfl rfl S3 rfl hE1 S3.m hlf (fun hlf1 => ?_) (fun k1 v1 l1_1 l2_1 sn1 w4 hlf1 hlft1 hlst1 S4 => ?_))
  ·refine wlo 1 2 rfl rfl rfl (wo_run rfl rfl (run_extract rfl rfl rfl) ?_)
   refine wl_end rfl ?_
   refine nm_sub [(5, _), (11, _), (13, _)] ⟨rfl, rfl, rfl, trivial⟩ ?_
   refine nm_thn ?_
   refine ws_seqN Plus_n13 Plus_n14 rfl rfl rfl ?_
   refine ws_condFN Plus_n16 rfl rfl rfl ?_
   refine ws_exit rfl rfl ?_
   refine nm_sub [(5, _)] ⟨rfl, trivial⟩ ?_
   refine nm_thn ?_
   refine ws_seqN Plus_n17 Plus_n18 rfl rfl rfl ?_
   refine ws_region rfl ?_
   refine wlm 0 1 rfl rfl rfl rfl rfl rfl rfl ?_
   refine wla 1 2 rfl rfl rfl rfl rfl rfl rfl ?_
   refine wl_end rfl ?_
   refine nm_sub [(4, _)] ⟨rfl, trivial⟩ ?_
   refine nm_thn ?_
   obtain ⟨M1, hle2, S5, hm1⟩ := S3.pubmap (i := 1) (H' := [_, _]) rfl rfl; clear S3
   replace hmws := hmws.mono hle2
   replace hmvs := hmvs.mono hle2
   replace hE1 := hE1.mono hle2
   refine ws_ret hC [_] rfl rfl ⟨rfl, trivial⟩ ?_
   refine ⟨_, rfl, _, hle2, (S5.pick [] [] (by decide) trivial), ?_⟩
   obtain rfl : lf = [] := hlf1
   rw [List.append_nil] at hpm
   exact ⟨_, rfl, _, hm1, hes, by rw [hmk, mk_perm hpm]⟩
  ·clear S3
   change SH _ _ _ [Rs.itr gvs clk1 r1 sn1, _] at S4
   refine wlo 1 2 rfl rfl rfl (wo_run rfl rfl (run_extract rfl rfl rfl) ?_)
   refine wl_end rfl ?_
   refine nm_sub [(5, _), (11, _), (13, _)] ⟨rfl, rfl, rfl, trivial⟩ ?_
   refine nm_thn ?_
   refine ws_seqN Plus_n13 Plus_n14 rfl rfl rfl ?_
   refine ws_condTN Plus_n15 rfl rfl rfl ?_
   refine ws_skip rfl ?_
   refine nm_sub [(5, _), (11, _)] ⟨rfl, rfl, trivial⟩ ?_
   refine nm_thn ?_
   refine ws_blockN Plus_n19 1 rfl rfl rfl ?_
   refine ws_seqN Plus_n20 Plus_n21 rfl rfl rfl ?_
   refine ws_region rfl ?_
   refine wlo 0 1 rfl rfl rfl (wo_run rfl rfl (run_entry (i := 0) rfl rfl S4 rfl hE1 S4.m hlst1) ?_)
   refine wlo 1 2 rfl rfl rfl (wo_run rfl rfl (run_extract rfl rfl rfl) ?_)
   refine wlo 2 3 rfl rfl rfl (wo_run rfl rfl (run_extract rfl rfl rfl) ?_)
   refine wla 3 4 rfl rfl rfl rfl rfl rfl rfl ?_
   refine wla 4 5 rfl rfl rfl rfl rfl rfl rfl ?_
   refine wl_end rfl ?_
   refine nm_sub [(5, _), (11, _), (6, _), (7, _)] ⟨rfl, rfl, rfl, rfl, trivial⟩ ?_
   refine nm_thn ?_
   refine ws_region rfl ?_
   refine wlm 0 1 rfl rfl rfl rfl rfl rfl rfl ?_
   refine wlm 1 2 rfl rfl rfl rfl rfl rfl rfl ?_
   refine wlo 2 3 rfl rfl rfl (wo_run rfl rfl (run_lookup (kc := Value.int .i64) (vc := Value.int .i64) (es := es) (k := k1) (zv := 0) (i := 1) rfl rfl rfl Try.underlying84 mk3 zr3 S4 rfl) ?_)
   refine wlm 3 4 rfl rfl rfl rfl rfl rfl rfl ?_
   refine wlo 4 5 rfl rfl rfl (wo_run rfl rfl (run_addW rfl rfl rfl) ?_)
   refine wlo 5 6 rfl rfl rfl (wo_mapUpdate (kc := Value.int .i64) (vc := Value.int .i64) (es := es) (k := k1) (e := (wr (((mg k1 es).getD 0) + v1))) (i := 1) (H' := [_, _]) (.inl rfl) rfl S4 rfl rfl rfl rfl Try.underlying84 mk3 rfl ?_)
   intro w5 S6; clear S4
   refine wl_end rfl ?_
   refine nm_blk ?_
   refine nm_lp ?_
   intro ax_ hax_
   refine ⟨_, ?hq2m, ⟨sn1, dn ++ [(k1, v1)], l1_1 ++ l2_1, _, rfl, hax_.sub ⟨rfl, rfl, trivial⟩, S6.pick [0, 1] [_, _] (by decide) ⟨rfl, rfl, trivial⟩, ?hq2f0, ?hq2f1, ?hq2f2, ?hq2f3⟩⟩
   case hq2f0 => assumption
   case hq2f1 => (refine List.Perm.trans ?_ hpm; simp only [*, List.append_assoc, List.cons_append, List.nil_append]; exact (List.perm_append_left_iff _).2 (List.perm_middle.symm))
   case hq2f2 => exact mp_ents hes (hvs.at_ hpm (by assumption)).1 (wr_idem _)
   case hq2f3 => exact plus_step hmk
   case hq2m => (simp only [*, List.length_append, List.length_cons]; omega)
noncomputable def Times_n0 : Code := Try.f57.body.getD .skip
noncomputable def Times_n1 : Code := cL Times_n0
noncomputable def Times_n2 : Code := cR Times_n0
noncomputable def Times_n3 : Code := cL Times_n2
noncomputable def Times_n4 : Code := cR Times_n2
noncomputable def Times_n5 : Code := cL Times_n4
noncomputable def Times_n6 : Code := cR Times_n4
noncomputable def Times_n7 : Code := cL Times_n5
noncomputable def Times_n8 : Code := cR Times_n5
noncomputable def Times_n9 : Code := cL Times_n8
noncomputable def Times_n10 : Code := cL Times_n9
noncomputable def Times_n11 : Code := cL Times_n10
noncomputable def Times_n12 : Code := cR Times_n10
noncomputable def Times_n13 : Code := cL Times_n12
noncomputable def Times_n14 : Code := cR Times_n12
noncomputable def Times_n15 : Code := cL Times_n13
noncomputable def Times_n16 : Code := cR Times_n13
noncomputable def Times_n17 : Code := cL Times_n6
noncomputable def Times_n18 : Code := cR Times_n6
noncomputable def Times_n19 : Code := cL Times_n14
noncomputable def Times_n20 : Code := cL Times_n19
noncomputable def Times_n21 : Code := cR Times_n19
noncomputable def Times_n22 : Code := cL Times_n21
noncomputable def Times_n23 : Code := cR Times_n21
noncomputable def Times_n24 : Code := cL Times_n23
noncomputable def Times_n25 : Code := cL Times_n24
noncomputable def Times_n26 : Code := cL Times_n25
noncomputable def Times_n27 : Code := cR Times_n25
noncomputable def Times_n28 : Code := cL Times_n27
noncomputable def Times_n29 : Code := cR Times_n27
noncomputable def Times_n30 : Code := cL Times_n28
noncomputable def Times_n31 : Code := cR Times_n28
noncomputable def Times_n32 : Code := cL Times_n29
noncomputable def Times_n33 : Code := cL Times_n32
noncomputable def Times_n34 : Code := cR Times_n32
set_option maxRecDepth 10000 in
theorem Times_t {w : World} {M : Hp} {X : Fr} (ws : List (Int × Int)) {gws : Nat} (vs : List (Int × Int)) {gvs : Nat} (hmws : MpOk (Value.int .i64) (Value.int .i64) gws ws M) (hmvs : MpOk (Value.int .i64) (Value.int .i64) gvs vs M) (B B2 : Nat) (hws : Ents ws B) (hvs : Ents vs B2) (hB : B + B2 ≤ 1099511627776) (S : SH w M X []) : Ct Try.prog 57 [.map (some gws), .map (some gvs)] w M X (WkR (B + B2) (mk ws * mk vs)) := by
 unfold Ct
 refine calls_in (b := Times_n0) Try.func57 rfl Try.ntmps57 rfl (fun C hC => ?_)
 refine ws_sub [(0, _), (1, _)] ⟨rfl, rfl, trivial⟩ ?_
 refine ws_seqN Times_n1 Times_n2 rfl rfl rfl ?_
 refine ws_region rfl ?_
 refine wla 0 1 rfl rfl rfl rfl rfl rfl rfl ?_
 refine wl_end rfl ?_
 refine nm_sub [(0, _), (1, _)] ⟨rfl, rfl, trivial⟩ ?_
 refine nm_thn ?_
 refine ws_seqN Times_n3 Times_n4 rfl rfl rfl ?_
 refine ws_region rfl ?_
 refine wlo 0 1 rfl rfl rfl (wo_makeMap Int Int (Value.int .i64) (Value.int .i64) rfl rfl rfl S ?_)
 intro gm1 w1 S1; clear S
 refine wla 1 2 rfl rfl rfl rfl rfl rfl rfl ?_
 refine wl_end rfl ?_
 refine nm_sub [(0, _), (1, _), (5, _)] ⟨rfl, rfl, rfl, trivial⟩ ?_
 refine nm_thn ?_
 refine ws_seqN Times_n5 Times_n6 rfl rfl rfl ?_
 refine ws_seqN Times_n7 Times_n8 rfl rfl rfl ?_
 refine ws_region rfl ?_
 refine wlm 0 1 rfl rfl rfl rfl rfl rfl rfl ?_
 obtain ⟨arr1, clk1, hE1⟩ := hmws.ents
 refine wlo 1 2 rfl rfl rfl (wo_range rfl rfl rfl rfl Try.underlying84 S1 hE1 S1.m ?_)
 intro r1 w2 S2; clear S1
 refine wl_end rfl ?_
 refine nm_sub [(1, _), (5, _), (12, _)] ⟨rfl, rfl, rfl, trivial⟩ ?_
 refine nm_thn ?_
 refine ws_blockN Times_n9 0 rfl rfl rfl ?_
 refine ws_loopE (fun mx_ ax_ wx_ => ∃ (sn : Array Nat) (dn : List (Int × Int)) (lf : List (Int × Int)) (es : List (Int × Int)), mx_ = lf.length ∧ Env 35 [(1, .map (some gvs)), (5, .map (some gm1)), (12, .pointer (some ⟨r1, 0, none⟩))] ax_ ∧ SH wx_ M X [Rs.itr gws clk1 r1 sn, Rs.mp (Value.int .i64) (Value.int .i64) gm1 es] ∧ Lft (Value.int .i64) (Value.int .i64) arr1 sn lf ∧ (dn ++ lf).Perm ws ∧ Ents es (B + B2) ∧ mk es = mk dn * mk vs) rfl ?_ ?_
 ·intro ax_ hax_
  refine ⟨_, ⟨#[], [], ws, [], rfl, hax_.sub ⟨rfl, rfl, rfl, trivial⟩, S2.pick [0, 1] [_, _] (by decide) ⟨rfl, rfl, trivial⟩, ?hq1f0, ?hq1f1, ?hq1f2, ?hq1f3⟩⟩
  case hq1f0 => exact hE1.lft
  case hq1f1 => exact List.Perm.refl _
  case hq1f2 => exact Ents.nil_ _
  case hq1f3 => exact (Pol.zero_mul _).symm
 ·rintro m2 a1 w3 ⟨sn, dn, lf, es, rfl, he1, S3, hlf, hpm, hes, hmk⟩
  clear S2
  refine ws_in he1 (c := Times_n10) rfl ?_
  clear he1 a1
  refine ws_seqN Times_n11 Times_n12 rfl rfl rfl ?_
  refine ws_region rfl ?_
  refine wlo 0 1 rfl rfl rfl (wo_next (i := 0) rfl rfl rfl rfl S3 rfl hE1 S3.m hlf (fun hlf1 => ?_) (fun k1 v1 l1_1 l2_1 sn1 w4 hlf1 hlft1 hlst1 S4 => ?_))
  ·refine wlo 1 2 rfl rfl rfl (wo_run rfl rfl (run_extract rfl rfl rfl) ?_)
   refine wl_end rfl ?_
   refine nm_sub [(1, _), (5, _), (12, _), (14, _)] ⟨rfl, rfl, rfl, rfl, trivial⟩ ?_
   refine nm_thn ?_
   refine ws_seqN Times_n13 Times_n14 rfl rfl rfl ?_
   refine ws_condFN Times_n16 rfl rfl rfl ?_
   refine ws_exit rfl rfl ?_
   refine nm_sub [(5, _)] ⟨rfl, trivial⟩ ?_
   refine nm_thn ?_
   refine ws_seqN Times_n17 Times_n18 rfl rfl rfl ?_
   refine ws_region rfl ?_
   refine wlm 0 1 rfl rfl rfl rfl rfl rfl rfl ?_
   refine wla 1 2 rfl rfl rfl rfl rfl rfl rfl ?_
   refine wl_end rfl ?_
   refine nm_sub [(4, _)] ⟨rfl, trivial⟩ ?_
   refine nm_thn ?_
   obtain ⟨M1, hle2, S5, hm1⟩ := S3.pubmap (i := 1) (H' := [_, _]) rfl rfl; clear S3
   replace hmws := hmws.mono hle2
   replace hmvs := hmvs.mono hle2
   replace hE1 := hE1.mono hle2
   refine ws_ret hC [_] rfl rfl ⟨rfl, trivial⟩ ?_
   refine ⟨_, rfl, _, hle2, (S5.pick [] [] (by decide) trivial), ?_⟩
   obtain rfl : lf = [] := hlf1
   rw [List.append_nil] at hpm
   exact ⟨_, rfl, _, hm1, hes, by rw [hmk, mk_perm hpm]⟩
  ·clear S3
   change SH _ _ _ [Rs.itr gws clk1 r1 sn1, _] at S4
   refine wlo 1 2 rfl rfl rfl (wo_run rfl rfl (run_extract rfl rfl rfl) ?_)
   refine wl_end rfl ?_
   refine nm_sub [(1, _), (5, _), (12, _), (14, _)] ⟨rfl, rfl, rfl, rfl, trivial⟩ ?_
   refine nm_thn ?_
   refine ws_seqN Times_n13 Times_n14 rfl rfl rfl ?_
   refine ws_condTN Times_n15 rfl rfl rfl ?_
   refine ws_skip rfl ?_
   refine nm_sub [(1, _), (5, _), (12, _)] ⟨rfl, rfl, rfl, trivial⟩ ?_
   refine nm_thn ?_
   refine ws_blockN Times_n19 1 rfl rfl rfl ?_
   refine ws_seqN Times_n20 Times_n21 rfl rfl rfl ?_
   refine ws_region rfl ?_
   refine wlo 0 1 rfl rfl rfl (wo_run rfl rfl (run_entry (i := 0) rfl rfl S4 rfl hE1 S4.m hlst1) ?_)
   refine wlo 1 2 rfl rfl rfl (wo_run rfl rfl (run_extract rfl rfl rfl) ?_)
   refine wlo 2 3 rfl rfl rfl (wo_run rfl rfl (run_extract rfl rfl rfl) ?_)
   refine wla 3 4 rfl rfl rfl rfl rfl rfl rfl ?_
   refine wla 4 5 rfl rfl rfl rfl rfl rfl rfl ?_
   refine wl_end rfl ?_
   refine nm_sub [(1, _), (5, _), (12, _), (6, _), (7, _)] ⟨rfl, rfl, rfl, rfl, rfl, trivial⟩ ?_
   refine nm_thn ?_
   refine ws_seqN Times_n22 Times_n23 rfl rfl rfl ?_
   have hk1 := (hws.at_ hpm hlf1).1
   refine ws_region rfl ?_
   refine wlm 0 1 rfl rfl rfl rfl rfl rfl rfl ?_
   obtain ⟨arr2, clk2, hE2⟩ := hmvs.ents
   refine wlo 1 2 rfl rfl rfl (wo_range rfl rfl rfl rfl Try.underlying84 S4 hE2 S4.m ?_)
   intro r2 w5 S6; clear S4
   refine wl_end rfl ?_
   refine nm_sub [(1, _), (5, _), (12, _), (6, _), (7, _), (19, _)] ⟨rfl, rfl, rfl, rfl, rfl, rfl, trivial⟩ ?_
   refine nm_thn ?_
   refine ws_blockN Times_n24 2 rfl rfl rfl ?_
   refine ws_loopE (fun mx_ ax_ wx_ => ∃ (sn2 : Array Nat) (dn2 : List (Int × Int)) (lf2 : List (Int × Int)) (es2 : List (Int × Int)), mx_ = lf2.length ∧ Env 35 [(1, .map (some gvs)), (5, .map (some gm1)), (12, .pointer (some ⟨r1, 0, none⟩)), (6, .int .i64 k1), (7, .int .i64 v1), (19, .pointer (some ⟨r2, 0, none⟩))] ax_ ∧ SH wx_ M X [Rs.itr gvs clk2 r2 sn2, Rs.itr gws clk1 r1 sn1, Rs.mp (Value.int .i64) (Value.int .i64) gm1 es2] ∧ Lft (Value.int .i64) (Value.int .i64) arr2 sn2 lf2 ∧ (dn2 ++ lf2).Perm vs ∧ Ents es2 (B + B2) ∧ mk es2 = mk dn * mk vs + mono k1 v1 * mk dn2) rfl ?_ ?_
   ·intro ax_ hax_
    refine ⟨_, ⟨#[], [], vs, es, rfl, hax_.sub ⟨rfl, rfl, rfl, rfl, rfl, rfl, trivial⟩, S6.pick [0, 1, 2] [_, _, _] (by decide) ⟨rfl, rfl, rfl, trivial⟩, ?hq2f0, ?hq2f1, ?hq2f2, ?hq2f3⟩⟩
    case hq2f0 => exact hE2.lft
    case hq2f1 => exact List.Perm.refl _
    case hq2f2 => exact hes
    case hq2f3 => (rw [hmk]; show _ = _ + mono _ _ * Pol.o; rw [Pol.mul_zero, Pol.add_zero])
   ·rintro m3 a2 w6 ⟨sn2, dn2, lf2, es2, rfl, he2, S7, hlf2, hpm2, hes2, hmk2⟩
    clear S6
    refine ws_in he2 (c := Times_n25) rfl ?_
    clear he2 a2
    refine ws_seqN Times_n26 Times_n27 rfl rfl rfl ?_
    refine ws_region rfl ?_
    refine wlo 0 1 rfl rfl rfl (wo_next (i := 0) rfl rfl rfl rfl S7 rfl hE2 S7.m hlf2 (fun hlf2 => ?_) (fun k2 v2 l1_2 l2_2 sn2 w7 hlf2 hlft2 hlst2 S8 => ?_))
    ·refine wlo 1 2 rfl rfl rfl (wo_run rfl rfl (run_extract rfl rfl rfl) ?_)
     refine wl_end rfl ?_
     refine nm_sub [(1, _), (5, _), (12, _), (6, _), (7, _), (19, _), (21, _)] ⟨rfl, rfl, rfl, rfl, rfl, rfl, rfl, trivial⟩ ?_
     refine nm_thn ?_
     refine ws_seqN Times_n28 Times_n29 rfl rfl rfl ?_
     refine ws_condFN Times_n31 rfl rfl rfl ?_
     refine ws_exit rfl rfl ?_
     refine nm_blk ?_
     refine nm_lp ?_
     have hend2 := hlf2
     intro ax_ hax_
     refine ⟨_, ?hq3m, ⟨sn1, dn ++ [(k1, v1)], l1_1 ++ l2_1, _, rfl, hax_.sub ⟨rfl, rfl, rfl, trivial⟩, S7.pick [1, 2] [_, _] (by decide) ⟨rfl, rfl, trivial⟩, ?hq3f0, ?hq3f1, ?hq3f2, ?hq3f3⟩⟩
     case hq3f0 => assumption
     case hq3f1 => (refine List.Perm.trans ?_ hpm; simp only [*, List.append_assoc, List.cons_append, List.nil_append]; exact (List.perm_append_left_iff _).2 (List.perm_middle.symm))
     case hq3f2 => exact hes2
     case hq3f3 => (rw [hmk2, mk_snoc, Pol.add_mul, mk_perm (show dn2.Perm vs by rw [← List.append_nil dn2]; have h9 := hpm2; rw [hend2] at h9; exact h9)])
     case hq3m => (simp only [*, List.length_append, List.length_cons]; omega)
    ·clear S7
     change SH _ _ _ [Rs.itr gvs clk2 r2 sn2, _, _] at S8
     refine wlo 1 2 rfl rfl rfl (wo_run rfl rfl (run_extract rfl rfl rfl) ?_)
     refine wl_end rfl ?_
     refine nm_sub [(1, _), (5, _), (12, _), (6, _), (7, _), (19, _), (21, _)] ⟨rfl, rfl, rfl, rfl, rfl, rfl, rfl, trivial⟩ ?_
     refine nm_thn ?_
     refine ws_seqN Times_n28 Times_n29 rfl rfl rfl ?_
     refine ws_condTN Times_n30 rfl rfl rfl ?_
     refine ws_skip rfl ?_
     refine nm_sub [(1, _), (5, _), (12, _), (6, _), (7, _), (19, _)] ⟨rfl, rfl, rfl, rfl, rfl, rfl, trivial⟩ ?_
     refine nm_thn ?_
     refine ws_blockN Times_n32 3 rfl rfl rfl ?_
     refine ws_seqN Times_n33 Times_n34 rfl rfl rfl ?_
     refine ws_region rfl ?_
     refine wlo 0 1 rfl rfl rfl (wo_run rfl rfl (run_entry (i := 0) rfl rfl S8 rfl hE2 S8.m hlst2) ?_)
     refine wlo 1 2 rfl rfl rfl (wo_run rfl rfl (run_extract rfl rfl rfl) ?_)
     refine wlo 2 3 rfl rfl rfl (wo_run rfl rfl (run_extract rfl rfl rfl) ?_)
     refine wla 3 4 rfl rfl rfl rfl rfl rfl rfl ?_
     refine wla 4 5 rfl rfl rfl rfl rfl rfl rfl ?_
     refine wl_end rfl ?_
     refine nm_sub [(1, _), (5, _), (12, _), (6, _), (7, _), (19, _), (8, _), (9, _)] ⟨rfl, rfl, rfl, rfl, rfl, rfl, rfl, rfl, trivial⟩ ?_
     refine nm_thn ?_
     have hk2 := (hvs.at_ hpm2 hlf2).1
     refine ws_region rfl ?_
     refine wlm 0 1 rfl rfl rfl rfl rfl rfl rfl ?_
     refine wlm 1 2 rfl rfl rfl rfl rfl rfl rfl ?_
     refine wlm 2 3 rfl rfl rfl rfl rfl rfl rfl ?_
     refine wlo 3 4 rfl rfl rfl (wo_run rfl rfl (run_add rfl rfl rfl (by first | omega | (simp only [lens]; omega))) ?_)
     refine wlo 4 5 rfl rfl rfl (wo_run rfl rfl (run_lookup (kc := Value.int .i64) (vc := Value.int .i64) (es := es2) (k := (k1 + k2)) (zv := 0) (i := 2) rfl rfl rfl Try.underlying84 mk3 zr3 S8 rfl) ?_)
     refine wlm 5 6 rfl rfl rfl rfl rfl rfl rfl ?_
     refine wlm 6 7 rfl rfl rfl rfl rfl rfl rfl ?_
     refine wlo 7 8 rfl rfl rfl (wo_run rfl rfl (run_mulW rfl rfl rfl) ?_)
     refine wlo 8 9 rfl rfl rfl (wo_run rfl rfl (run_addW rfl rfl rfl) ?_)
     refine wlo 9 10 rfl rfl rfl (wo_mapUpdate (kc := Value.int .i64) (vc := Value.int .i64) (es := es2) (k := (k1 + k2)) (e := (wr (((mg (k1 + k2) es2).getD 0) + (wr (v1 * v2))))) (i := 2) (H' := [_, _, _]) (.inl rfl) rfl S8 rfl rfl rfl rfl Try.underlying84 mk3 rfl ?_)
     intro w8 S9; clear S8
     refine wl_end rfl ?_
     refine nm_blk ?_
     refine nm_lp ?_
     intro ax_ hax_
     refine ⟨_, ?hq4m, ⟨sn2, dn2 ++ [(k2, v2)], l1_2 ++ l2_2, _, rfl, hax_.sub ⟨rfl, rfl, rfl, rfl, rfl, rfl, trivial⟩, S9.pick [0, 1, 2] [_, _, _] (by decide) ⟨rfl, rfl, rfl, trivial⟩, ?hq4f0, ?hq4f1, ?hq4f2, ?hq4f3⟩⟩
     case hq4f0 => assumption
     case hq4f1 => (refine List.Perm.trans ?_ hpm2; simp only [*, List.append_assoc, List.cons_append, List.nil_append]; exact (List.perm_append_left_iff _).2 (List.perm_middle.symm))
     case hq4f2 => exact mp_ents hes2 (by omega) (wr_idem _)
     case hq4f3 => exact times_step hmk2
     case hq4m => (simp only [*, List.length_append, List.length_cons]; omega)
theorem FormW_t {w : World} {M : Hp} {X : Fr} {g B : Nat} {p : Pol} (h : Wk M g B p) (hB : B ≤ 1099511627776) (S : SH w M X []) : Ct Try.prog 61 [.map (some g)] w M X (PT B p) := by
 obtain ⟨es, h1, h2, rfl⟩ := h
 unfold Ct
 refine (Form_t es h1 B h2 hB S).mono ?_
 rintro e w' ⟨v, rfl, M', hle, S', A, c, rfl, hr⟩
 exact ⟨_, rfl, M', hle, S', A, c, _, rfl, hr, formL_can h2 hB, formL_bd h2, mk_formL h2⟩
theorem PlusW_t {w : World} {M : Hp} {X : Fr} {g g2 B C : Nat} {p q : Pol} (h : Wk M g B p) (k : Wk M g2 C q) (D : Nat) (hB : B ≤ D) (hC : C ≤ D) (hD : D ≤ 1099511627776) (S : SH w M X []) : Ct Try.prog 56 [.map (some g), .map (some g2)] w M X (WkR D (p + q)) := by
 obtain ⟨es, h1, h2, rfl⟩ := h.up hB
 obtain ⟨fs, k1, k2, rfl⟩ := k.up hC
 exact Plus_t es fs h1 k1 D h2 k2 S
theorem TimesW_t {w : World} {M : Hp} {X : Fr} {g g2 B C : Nat} {p q : Pol} (h : Wk M g B p) (k : Wk M g2 C q) (hB : B + C ≤ 1099511627776) (S : SH w M X []) : Ct Try.prog 57 [.map (some g), .map (some g2)] w M X (WkR (B + C) (p * q)) := by
 obtain ⟨es, h1, h2, rfl⟩ := h
 obtain ⟨fs, k1, k2, rfl⟩ := k
 exact Times_t es fs h1 k1 B C h2 k2 hB S
end Go.Proofs.Ytkcighnochjlgaa
namespace Go.Proofs.Ytkcighnochjlgaa
open Go.ChangeShapes Go.WideShapes Go.ChangeAt Go.RowKit
def atX (a : List Tm) (t : Int) (i : Nat) : Prop := Int.tmod (ga a i).e 2 ≠ 0 ∧ t = -1
instance (a : List Tm) (t : Int) (i : Nat) : Decidable (atX a t i) := by unfold atX; infer_instance
end Go.Proofs.Ytkcighnochjlgaa
namespace Go.Proofs.Ytkcighnochjlgaa
open Go.ChangeShapes Go.WideShapes Go.ChangeAt Go.RowKit
theorem sl91 : SlOf Try.prog 91 (cdMap 84) := ⟨.map none, Try.underlying91, by kernel_rfl, rfl, by decide, by decide⟩
end Go.Proofs.Ytkcighnochjlgaa
namespace Go.Proofs.Ytkcighnochjlgaa
open Go.ChangeShapes Go.WideShapes Go.ChangeAt Go.RowKit
section
variable {α : Type} {C : Cd α} {N N' : Hp} {vs vs' : List SlV} {xss yss : List (List α)}
/-- The inner lists' own lists. -/
def RdD (C : Cd α) (N : Hp) (svs : List (List SlV)) (mm : List (List (List α))) : Prop := svs.length = mm.length ∧ ∀ i, i < svs.length → Rd2 C N (ga svs i) (ga mm i)
variable {svs : List (List SlV)} {mm : List (List (List α))}
theorem RdD.mono (h : RdD C N svs mm) (k : N.le N') : RdD C N' svs mm := ⟨h.1, fun i hi => (h.2 i hi).mono k⟩
theorem RdD.nil_ : RdD C N [] [] := ⟨rfl, fun i hi => by simp at hi⟩
theorem RdD.snoc (h : RdD C N svs mm) (k : Rd2 C N vs xss) : RdD C N (svs ++ [vs]) (mm ++ [xss]) := ⟨by simp [h.1], fun j hj => by
  simp at hj
  by_cases e : j < svs.length
  · rw [ga_append_left _ _ _ e, ga_append_left _ _ _ (by rw [← h.1]; exact e)]; exact h.2 j e
  · have hl := h.1
    obtain rfl : j = svs.length := by omega
    rw [ga_append_right svs _ _ (by omega), ga_append_right mm _ _ (by omega), show svs.length - svs.length = 0 by omega, show svs.length - mm.length = 0 by omega]
    exact k⟩
theorem RdD.set_ (h : RdD C N svs mm) (k : Rd2 C N vs xss) {i : Nat} (hi : i < svs.length) : RdD C N (svs.set i vs) (mm.set i xss) := ⟨by simp [h.1], fun j hj => by
  rw [List.length_set] at hj
  rw [ga_set _ _ _ _ hi, ga_set _ _ _ _ (by rw [← h.1]; exact hi)]
  by_cases e : i = j
  · rw [if_pos e, if_pos e]; exact k
  · rw [if_neg e, if_neg e]; exact h.2 j hj⟩
end
section
variable {P : Program} {o : Oper} {L : List (Nat × Value)} {w : World} {x hx : Operand} {t tn T : TypeId} {n d : Nat} {Kt : List (Nat × Value) → World → Prop} {M : Hp} {X : Fr} {H : List Rs}
end
end Go.Proofs.Ytkcighnochjlgaa
namespace Go.Proofs.Ytkcighnochjlgaa
open Go.ChangeShapes Go.WideShapes Go.ChangeAt Go.RowKit
noncomputable def abs_n0 : Code := Try.f63.body.getD .skip
noncomputable def abs_n1 : Code := cL abs_n0
noncomputable def abs_n2 : Code := cR abs_n0
noncomputable def abs_n3 : Code := cL abs_n2
noncomputable def abs_n4 : Code := cR abs_n2
noncomputable def abs_n5 : Code := cL abs_n3
noncomputable def abs_n6 : Code := cR abs_n3
noncomputable def abs_n7 : Code := cL abs_n6
noncomputable def abs_n8 : Code := cR abs_n6
noncomputable def abs_n9 : Code := cL abs_n7
noncomputable def abs_n10 : Code := cR abs_n7
noncomputable def abs_n11 : Code := cL abs_n4
noncomputable def abs_n12 : Code := cR abs_n4
set_option maxRecDepth 10000 in
theorem abs_q {w : World} {M : Hp} {X : Fr} (n : Int) (hn : -9223372036854775807 ≤ n ∧ n ≤ 9223372036854775807) (S : SH w M X []) : Cq Try.prog 63 [.int .i64 n] w M X (fun u => u = .int .i64 (max n (-n))) := by
 unfold Cq
 refine calls_in (b := abs_n0) Try.func63 rfl Try.ntmps63 rfl (fun C hC => ?_)
 refine ws_sub [(0, _)] ⟨rfl, trivial⟩ ?_
 refine ws_seqN abs_n1 abs_n2 rfl rfl rfl ?_
 refine ws_region rfl ?_
 refine wla 0 1 rfl rfl rfl rfl rfl rfl rfl ?_
 refine wl_end rfl ?_
 refine nm_sub [(0, _)] ⟨rfl, trivial⟩ ?_
 refine nm_thn ?_
 refine ws_seqN abs_n3 abs_n4 rfl rfl rfl ?_
 refine ws_seqN abs_n5 abs_n6 rfl rfl rfl ?_
 refine ws_region rfl ?_
 refine wlm 0 1 rfl rfl rfl rfl rfl rfl rfl ?_
 refine wlo 1 2 rfl rfl rfl (wo_run rfl rfl (run_lss rfl rfl rfl) ?_)
 refine wl_end rfl ?_
 refine nm_sub [(0, _), (4, _)] ⟨rfl, rfl, trivial⟩ ?_
 refine nm_thn ?_
 refine ws_condN abs_n7 abs_n8 rfl rfl rfl rfl (fun hb4 => ?_) (fun hb4 => ?_)
 ·have hb4 := of_decide_eq_true hb4
  refine ws_seqN abs_n9 abs_n10 rfl rfl rfl ?_
  refine ws_region rfl ?_
  refine wlm 0 1 rfl rfl rfl rfl rfl rfl rfl ?_
  refine wlo 1 2 rfl rfl rfl (wo_run rfl rfl (run_neg rfl rfl (by first | omega | (simp only [lens]; omega))) ?_)
  refine wla 2 3 rfl rfl rfl rfl rfl rfl rfl ?_
  refine wl_end rfl ?_
  refine nm_sub [(2, _)] ⟨rfl, trivial⟩ ?_
  refine nm_thn ?_
  refine ws_ret hC [_] rfl rfl ⟨rfl, trivial⟩ ?_
  exact ⟨_, rfl, (S.pick [] [] (by decide) trivial), (int_eq (by omega))⟩
 ·have hb4 := of_decide_eq_false hb4
  refine ws_skip rfl ?_
  refine nm_sub [(0, _)] ⟨rfl, trivial⟩ ?_
  refine nm_thn ?_
  refine ws_seqN abs_n11 abs_n12 rfl rfl rfl ?_
  refine ws_region rfl ?_
  refine wlm 0 1 rfl rfl rfl rfl rfl rfl rfl ?_
  refine wla 1 2 rfl rfl rfl rfl rfl rfl rfl ?_
  refine wl_end rfl ?_
  refine nm_sub [(2, _)] ⟨rfl, trivial⟩ ?_
  refine nm_thn ?_
  refine ws_ret hC [_] rfl rfl ⟨rfl, trivial⟩ ?_
  exact ⟨_, rfl, (S.pick [] [] (by decide) trivial), (int_eq (by omega))⟩
end Go.Proofs.Ytkcighnochjlgaa
namespace Go.Proofs.Ytkcighnochjlgaa
open Go.ChangeShapes Go.WideShapes Go.ChangeAt Go.RowKit
section
variable {bf bf' : Nat → Nat} {N : Hp} {gs : List (Option Nat)} {ps : List (Option Pol)} {gss : List (List (Option Nat))} {pss : List (List (Option Pol))} {α : Type} {C : Cd α} {vs : List SlV} {xss : List (List α)} {svs : List (List SlV)} {mm : List (List (List α))}
theorem WksA.rep (bf : Nat → Nat) (N : Hp) (n : Nat) : WksA bf N (List.replicate n []) (List.replicate n []) := ⟨by simp, fun i hi => by
  rw [List.length_replicate] at hi
  rw [ga_rep _ _ _ hi, ga_rep _ _ _ hi]
  exact Wks.nil_ bf N⟩
theorem Wks.up (h : Wks bf N gs ps) (k : ∀ i, bf i ≤ bf' i) : Wks bf' N gs ps := ⟨h.1, fun i hi => by
  have := h.2 i hi
  split at this
  · obtain ⟨g, h1, h2⟩ := this
    exact ⟨g, h1, h2.up (k i)⟩
  · exact this⟩
theorem WksA.up (h : WksA bf N gss pss) (k : ∀ i, bf i ≤ bf' i) : WksA bf' N gss pss := ⟨h.1, fun i hi => (h.2 i hi).up k⟩
theorem WksA.put (h : WksA bf N gss pss) {g : Nat} {p : Pol} (i k : Nat) (hg : Wk N g (bf k) p) (hi : i < gss.length) (hk : k < (ga gss i).length) : WksA bf N (gss.set i ((ga gss i).set k (some g))) (pss.set i ((ga pss i).set k (some p))) :=
  h.set_ ((h.2 i hi).set_ hg hk) hi
theorem RdD.put (h : RdD C N svs mm) {A : Option Addr} {c : Nat} {xs : List α} (i k : Nat) (hx : RdA C N A c xs) (hi : i < svs.length) (hk : k < (ga mm i).length) : RdD C N (svs.set i ((ga svs i).set k ⟨A, xs.length, c⟩)) (mm.set i ((ga mm i).set k xs)) :=
  h.set_ ((h.2 i hi).set_ hx k hk) hi
end
end Go.Proofs.Ytkcighnochjlgaa
namespace Go.Proofs.Ytkcighnochjlgaa
open Go.ChangeShapes Go.WideShapes Go.ChangeAt Go.RowKit
/-- The place of the first that is so, or -1. -/
def idxF (p : Int → Bool) (xs : List Int) : Int := match xs.findIdx? p with
 | some i => (i : Int)
 | none => -1
theorem idxF_hit {p : Int → Bool} {xs : List Int} {k : Nat} (hk : k < xs.length) (h : p (ga xs k) = true) (h0 : ∀ j, j < k → p (ga xs j) = false) : idxF p xs = k := by
 have : xs.findIdx? p = some k := by
  rw [List.findIdx?_eq_some_iff_getElem]
  refine ⟨hk, by rw [← ga_eq hk]; exact h, fun j hj => ?_⟩
  rw [← ga_eq (by omega), h0 j hj]; simp
 simp [idxF, this]
theorem idxF_none {p : Int → Bool} {xs : List Int} (h0 : ∀ j, j < xs.length → p (ga xs j) = false) : idxF p xs = -1 := by
 have : xs.findIdx? p = none := by
  rw [List.findIdx?_eq_none_iff]
  intro x hx
  obtain ⟨j, hj, rfl⟩ := List.mem_iff_getElem.1 hx
  rw [← ga_eq hj]; exact h0 j hj
 simp [idxF, this]
theorem idxF_any (p : Int → Bool) (xs : List Int) : decide (0 ≤ idxF p xs) = xs.any p := by
 unfold idxF
 cases h : xs.findIdx? p with
 | some i =>
  rw [List.findIdx?_eq_some_iff_getElem] at h
  obtain ⟨h1, h2, _⟩ := h
  rw [Bool.eq_iff_iff, decide_eq_true_iff, List.any_eq_true]
  exact ⟨fun _ => ⟨xs[i], List.getElem_mem h1, h2⟩, fun _ => by show (0 : Int) ≤ (i : Int); omega⟩
 | none =>
  rw [List.findIdx?_eq_none_iff] at h
  rw [Bool.eq_iff_iff, decide_eq_true_iff, List.any_eq_true]
  constructor
  ·intro h1; exact absurd h1 (by decide)
  ·rintro ⟨x, hx, hp⟩; rw [h x hx] at hp; cases hp
noncomputable def IndexFuncI_n0 : Code := Try.f136.body.getD .skip
noncomputable def IndexFuncI_n1 : Code := cL IndexFuncI_n0
noncomputable def IndexFuncI_n2 : Code := cR IndexFuncI_n0
noncomputable def IndexFuncI_n3 : Code := cL IndexFuncI_n2
noncomputable def IndexFuncI_n4 : Code := cR IndexFuncI_n2
noncomputable def IndexFuncI_n5 : Code := cL IndexFuncI_n3
noncomputable def IndexFuncI_n6 : Code := cR IndexFuncI_n3
noncomputable def IndexFuncI_n7 : Code := cL IndexFuncI_n6
noncomputable def IndexFuncI_n8 : Code := cL IndexFuncI_n7
noncomputable def IndexFuncI_n9 : Code := cL IndexFuncI_n8
noncomputable def IndexFuncI_n10 : Code := cR IndexFuncI_n8
noncomputable def IndexFuncI_n11 : Code := cL IndexFuncI_n10
noncomputable def IndexFuncI_n12 : Code := cR IndexFuncI_n10
noncomputable def IndexFuncI_n13 : Code := cL IndexFuncI_n11
noncomputable def IndexFuncI_n14 : Code := cR IndexFuncI_n11
noncomputable def IndexFuncI_n15 : Code := cL IndexFuncI_n12
noncomputable def IndexFuncI_n16 : Code := cR IndexFuncI_n12
noncomputable def IndexFuncI_n17 : Code := cL IndexFuncI_n15
noncomputable def IndexFuncI_n18 : Code := cL IndexFuncI_n17
noncomputable def IndexFuncI_n19 : Code := cR IndexFuncI_n17
noncomputable def IndexFuncI_n20 : Code := cL IndexFuncI_n19
noncomputable def IndexFuncI_n21 : Code := cR IndexFuncI_n19
noncomputable def IndexFuncI_n22 : Code := cL IndexFuncI_n21
noncomputable def IndexFuncI_n23 : Code := cR IndexFuncI_n21
noncomputable def IndexFuncI_n24 : Code := cL IndexFuncI_n22
noncomputable def IndexFuncI_n25 : Code := cR IndexFuncI_n22
noncomputable def IndexFuncI_n26 : Code := cL IndexFuncI_n4
noncomputable def IndexFuncI_n27 : Code := cR IndexFuncI_n4
set_option maxRecDepth 10000 in
theorem IndexFuncI_q {w : World} {M : Hp} {X : Fr} (s : List Int) {sA : Option Addr} {sc : Nat} (fv : FuncId) (cap : List Value) (p : Int → Bool) (hs : RdA cdInt (M.un X.h) sA sc s) (hen : ∀ args w, (callFunc fv args).run Try.prog w = .ok (.enter fv args) w) (hf : ∀ (w : World) (Y : Fr), (M.un X.h).le (M.un Y.h) → SH w M Y [] → ∀ x ∈ s, Cq Try.prog fv ([.int .i64 x] ++ cap) w M Y (fun u => u = .bool (p x))) (S : SH w M X []) : Cq Try.prog 136 [.slice sA s.length sc, .func (.func fv) #[] cap.toArray] w M X (fun u => u = .int .i64 (idxF p s)) := by
 unfold Cq
 have rmhs : s.length * 8 ≤ 140737488355328 := hs.room
 have hroom : s.length * 8 ≤ 140737488355328 := hs.room
 refine calls_in (b := IndexFuncI_n0) Try.func136 rfl Try.ntmps136 rfl (fun C hC => ?_)
 refine ws_sub [(0, _), (1, _)] ⟨rfl, rfl, trivial⟩ ?_
 refine ws_seqN IndexFuncI_n1 IndexFuncI_n2 rfl rfl rfl ?_
 refine ws_region rfl ?_
 refine wla 0 1 rfl rfl rfl rfl rfl rfl rfl ?_
 refine wl_end rfl ?_
 refine nm_sub [(0, _), (1, _)] ⟨rfl, rfl, trivial⟩ ?_
 refine nm_thn ?_
 refine ws_seqN IndexFuncI_n3 IndexFuncI_n4 rfl rfl rfl ?_
 refine ws_seqN IndexFuncI_n5 IndexFuncI_n6 rfl rfl rfl ?_
 refine ws_region rfl ?_
 refine wlm 0 1 rfl rfl rfl rfl rfl rfl rfl ?_
 refine wlo 1 2 rfl rfl rfl (wo_run rfl rfl (run_len rfl rfl rfl rfl rfl rfl Try.underlying36) ?_)
 refine wlm 2 3 rfl rfl rfl rfl rfl rfl rfl ?_
 refine wl_end rfl ?_
 refine nm_sub [(0, _), (1, _), (7, _), (8, _)] ⟨rfl, rfl, rfl, rfl, trivial⟩ ?_
 refine nm_thn ?_
 refine ws_blockN IndexFuncI_n7 0 rfl rfl rfl ?_
 refine ws_loopE (fun mx_ ax_ wx_ => ∃ (k : Nat), mx_ = s.length - k ∧ Env 19 [(0, .slice sA s.length sc), (1, .func (.func fv) #[] cap.toArray), (7, .int .i64 (s.length : Int)), (8, .int .i64 (k : Int))] ax_ ∧ SH wx_ M X [] ∧ k ≤ s.length ∧ (∀ j, j < k → p (ga s j) = false)) rfl ?_ ?_
 ·intro ax_ hax_
  refine ⟨_, ⟨0, rfl, hax_.sub ⟨rfl, rfl, rfl, rfl, trivial⟩, S.pick [] [] (by decide) trivial, ?hq1f0, ?hq1f1⟩⟩
  case hq1f0 => omega
  case hq1f1 => (intro j hj; omega)
 ·rintro m1 a1 w1 ⟨k, rfl, he1, S1, hk, hno⟩
  clear S
  refine ws_in he1 (c := IndexFuncI_n8) rfl ?_
  clear he1 a1
  refine ws_seqN IndexFuncI_n9 IndexFuncI_n10 rfl rfl rfl ?_
  refine ws_region rfl ?_
  refine wlo 0 1 rfl rfl rfl (wo_run rfl rfl (run_lss rfl rfl rfl) ?_)
  refine wl_end rfl ?_
  refine nm_thn ?_
  refine ws_seqN IndexFuncI_n11 IndexFuncI_n12 rfl rfl rfl ?_
  refine ws_condN IndexFuncI_n13 IndexFuncI_n14 rfl rfl rfl rfl (fun hb9 => ?_) (fun hb9 => ?_)
  ·have hb9 := of_decide_eq_true hb9
   refine ws_skip rfl ?_
   refine nm_sub [(0, _), (1, _), (7, _), (8, _)] ⟨rfl, rfl, rfl, rfl, trivial⟩ ?_
   refine nm_thn ?_
   refine ws_seqN IndexFuncI_n15 IndexFuncI_n16 rfl rfl rfl ?_
   refine ws_blockN IndexFuncI_n17 1 rfl rfl rfl ?_
   refine ws_seqN IndexFuncI_n18 IndexFuncI_n19 rfl rfl rfl ?_
   refine ws_region rfl ?_
   refine wlm 0 1 rfl rfl rfl rfl rfl rfl rfl ?_
   refine wla 1 2 rfl rfl rfl rfl rfl rfl rfl ?_
   refine wl_end rfl ?_
   refine nm_sub [(0, _), (1, _), (7, _), (8, _), (5, _)] ⟨rfl, rfl, rfl, rfl, rfl, trivial⟩ ?_
   refine nm_thn ?_
   refine ws_seqN IndexFuncI_n20 IndexFuncI_n21 rfl rfl rfl ?_
   refine ws_region rfl ?_
   refine wlm 0 1 rfl rfl rfl rfl rfl rfl rfl ?_
   refine wlm 1 2 rfl rfl rfl rfl rfl rfl rfl ?_
   refine wlm 2 3 rfl rfl rfl rfl rfl rfl rfl ?_
   refine wlo 3 4 rfl rfl rfl (wo_run rfl rfl (run_indexM (C := cdInt) k rfl rfl rfl sl36 (by first | rfl | omega) hs (by first | omega | (simp only [lens]; omega))) ?_)
   refine wlo 4 5 rfl rfl rfl (wo_run rfl rfl (run_load1 rfl rfl Try.underlying3 rfl (hs.cell S1.um (i := k) (by first | omega | (simp only [lens]; omega)) 0 rfl rfl)) ?_)
   refine wlo 5 6 rfl rfl rfl (wo_cqF rfl rfl rfl rfl rfl rfl rfl hen S1 (hf _ _ S1.un_XH S1.lend _ (ga_mem (by omega))) ?_)
   rintro _ w2 S2 rfl; clear S1
   refine wl_end rfl ?_
   refine nm_sub [(0, _), (1, _), (7, _), (8, _), (5, _), (16, _)] ⟨rfl, rfl, rfl, rfl, rfl, rfl, trivial⟩ ?_
   refine nm_thn ?_
   refine ws_condN IndexFuncI_n22 IndexFuncI_n23 rfl rfl rfl rfl (fun hb16 => ?_) (fun hb16 => ?_)
   ·refine ws_seqN IndexFuncI_n24 IndexFuncI_n25 rfl rfl rfl ?_
    refine ws_region rfl ?_
    refine wlm 0 1 rfl rfl rfl rfl rfl rfl rfl ?_
    refine wla 1 2 rfl rfl rfl rfl rfl rfl rfl ?_
    refine wl_end rfl ?_
    refine nm_sub [(4, _)] ⟨rfl, trivial⟩ ?_
    refine nm_thn ?_
    refine ws_ret hC [_] rfl rfl ⟨rfl, trivial⟩ ?_
    exact ⟨_, rfl, (S2.pick [] [] (by decide) trivial), (by rw [idxF_hit (by omega) hb16 hno]; rfl)⟩
   ·refine ws_skip rfl ?_
    refine nm_blk ?_
    refine nm_sub [(0, _), (1, _), (7, _), (8, _)] ⟨rfl, rfl, rfl, rfl, trivial⟩ ?_
    refine nm_thn ?_
    refine ws_region rfl ?_
    refine wlo 0 1 rfl rfl rfl (wo_run rfl rfl (run_add rfl rfl rfl (by first | omega | (simp only [lens]; omega))) ?_)
    refine wlm 1 2 rfl rfl rfl rfl rfl rfl rfl ?_
    refine wl_end rfl ?_
    refine nm_lp ?_
    intro ax_ hax_
    refine ⟨_, ?hq2m, ⟨k + 1, rfl, hax_.sub ⟨rfl, rfl, rfl, rfl, trivial⟩, S2.pick [] [] (by decide) trivial, ?hq2f0, ?hq2f1⟩⟩
    case hq2f0 => first | assumption | omega
    case hq2f1 => (intro j hj; by_cases h : j = k; (subst h; exact hb16); exact hno j (by omega))
    case hq2m => omega
  ·have hb9 := of_decide_eq_false hb9
   refine ws_exit rfl rfl ?_
   refine nm_sub [] trivial ?_
   refine nm_thn ?_
   refine ws_seqN IndexFuncI_n26 IndexFuncI_n27 rfl rfl rfl ?_
   refine ws_region rfl ?_
   refine wla 0 1 rfl rfl rfl rfl rfl rfl rfl ?_
   refine wl_end rfl ?_
   refine nm_thn ?_
   refine ws_ret hC [_] rfl rfl ⟨rfl, trivial⟩ ?_
   exact ⟨_, rfl, (S1.pick [] [] (by decide) trivial), (by rw [idxF_none (fun j hj => hno j (by omega))]; rfl)⟩
def wrongB (n a : Int) : Bool := decide (a = 0 ∨ n ≤ a ∨ a ≤ -n)
def checkI (n : Int) (xss : List (List Int)) : Int := if n < 2 ∨ 6 < n then 3 else if xss.any (fun w => w.any (wrongB n)) then 3 else if xss.any (fun w => decide (20 < w.length)) then 2 else 0
noncomputable def ContainsFuncI_n0 : Code := Try.f102.body.getD .skip
noncomputable def ContainsFuncI_n1 : Code := cL ContainsFuncI_n0
noncomputable def ContainsFuncI_n2 : Code := cR ContainsFuncI_n0
noncomputable def ContainsFuncI_n3 : Code := cL ContainsFuncI_n2
noncomputable def ContainsFuncI_n4 : Code := cR ContainsFuncI_n2
set_option maxRecDepth 10000 in
theorem ContainsFuncI_q {w : World} {M : Hp} {X : Fr} (s : List Int) {sA : Option Addr} {sc : Nat} (fv : FuncId) (cap : List Value) (p : Int → Bool) (hs : RdA cdInt (M.un X.h) sA sc s) (hen : ∀ args w, (callFunc fv args).run Try.prog w = .ok (.enter fv args) w) (hf : ∀ (w : World) (Y : Fr), (M.un X.h).le (M.un Y.h) → SH w M Y [] → ∀ x ∈ s, Cq Try.prog fv ([.int .i64 x] ++ cap) w M Y (fun u => u = .bool (p x))) (S : SH w M X []) : Cq Try.prog 102 [.slice sA s.length sc, .func (.func fv) #[] cap.toArray] w M X (fun u => u = .bool (s.any p)) := by
 unfold Cq
 have rmhs : s.length * 8 ≤ 140737488355328 := hs.room
 refine calls_in (b := ContainsFuncI_n0) Try.func102 rfl Try.ntmps102 rfl (fun C hC => ?_)
 refine ws_sub [(0, _), (1, _)] ⟨rfl, rfl, trivial⟩ ?_
 refine ws_seqN ContainsFuncI_n1 ContainsFuncI_n2 rfl rfl rfl ?_
 refine ws_region rfl ?_
 refine wla 0 1 rfl rfl rfl rfl rfl rfl rfl ?_
 refine wl_end rfl ?_
 refine nm_sub [(0, _), (1, _)] ⟨rfl, rfl, trivial⟩ ?_
 refine nm_thn ?_
 refine ws_seqN ContainsFuncI_n3 ContainsFuncI_n4 rfl rfl rfl ?_
 refine ws_region rfl ?_
 refine wlm 0 1 rfl rfl rfl rfl rfl rfl rfl ?_
 refine wlm 1 2 rfl rfl rfl rfl rfl rfl rfl ?_
 refine wlo 2 3 rfl rfl rfl (wo_cq rfl rfl rfl rfl rfl rfl rfl cf136 S (IndexFuncI_q s fv cap p (hs.mono S.un_XH) hen (fun w Y hl S9 => hf w Y (S.un_XH.trans hl) S9) S.lend) ?_)
 rintro _ w1 S1 rfl; clear S
 refine wlo 3 4 rfl rfl rfl (wo_run rfl rfl (run_geq rfl rfl rfl) ?_)
 refine wla 4 5 rfl rfl rfl rfl rfl rfl rfl ?_
 refine wl_end rfl ?_
 refine nm_sub [(4, _)] ⟨rfl, trivial⟩ ?_
 refine nm_thn ?_
 refine ws_ret hC [_] rfl rfl ⟨rfl, trivial⟩ ?_
 exact ⟨_, rfl, (S1.pick [] [] (by decide) trivial), (by rw [← idxF_any]; rfl)⟩
noncomputable def Check1_n0 : Code := Try.f101.body.getD .skip
noncomputable def Check1_n1 : Code := cL Check1_n0
noncomputable def Check1_n2 : Code := cR Check1_n0
noncomputable def Check1_n3 : Code := cL Check1_n2
noncomputable def Check1_n4 : Code := cR Check1_n2
set_option maxRecDepth 10000 in
theorem Check1_q {w : World} {M : Hp} {X : Fr} (a : Int) (n : Int) {g : Nat} (hb : BxM (M.un X.h) g 3 [.int .i64 n]) (hn : 0 ≤ n ∧ n ≤ 6) (S : SH w M X []) : Cq Try.prog 101 [.int .i64 a, .pointer (some ⟨g, 0, none⟩)] w M X (fun u => u = .bool (wrongB n a)) := by
 unfold Cq
 refine calls_in (b := Check1_n0) Try.func101 rfl Try.ntmps101 rfl (fun C hC => ?_)
 refine ws_sub [(0, _), (1, _)] ⟨rfl, rfl, trivial⟩ ?_
 refine ws_seqN Check1_n1 Check1_n2 rfl rfl rfl ?_
 refine ws_region rfl ?_
 refine wla 0 1 rfl rfl rfl rfl rfl rfl rfl ?_
 refine wl_end rfl ?_
 refine nm_sub [(0, _), (1, _)] ⟨rfl, rfl, trivial⟩ ?_
 refine nm_thn ?_
 refine ws_seqN Check1_n3 Check1_n4 rfl rfl rfl ?_
 refine ws_region rfl ?_
 refine wlm 0 1 rfl rfl rfl rfl rfl rfl rfl ?_
 refine wlo 1 2 rfl rfl rfl (wo_run rfl rfl (run_eql rfl rfl rfl) ?_)
 refine wlm 2 3 rfl rfl rfl rfl rfl rfl rfl ?_
 refine wl_split (t := 6) rfl (fun hg6 => ?_) (fun hg6 => ?_)
 ·have hg6 := of_decide_eq_true hg6
  refine wl_no (k := 3) (k' := 4) (d := 7) rfl rfl ⟨_, _, _, rfl, rfl, rfl, rfl⟩ rfl rfl ?_
  refine wl_no (k := 4) (k' := 5) (d := 8) rfl rfl ⟨_, _, _, rfl, rfl, rfl, rfl⟩ rfl rfl ?_
  refine wl_no (k := 5) (k' := 6) (d := 9) rfl rfl ⟨_, _, _, rfl, rfl, rfl, rfl⟩ rfl rfl ?_
  refine wlo 6 7 rfl rfl rfl (wo_run rfl rfl (run_pickT rfl rfl rfl) ?_)
  refine wlm 7 8 rfl rfl rfl rfl rfl rfl rfl ?_
  refine wl_no (k := 8) (k' := 9) (d := 12) rfl rfl ⟨_, _, _, rfl, rfl, rfl, rfl⟩ rfl rfl ?_
  refine wl_no (k := 9) (k' := 10) (d := 13) rfl rfl ⟨_, _, _, rfl, rfl, rfl, rfl⟩ rfl rfl ?_
  refine wl_no (k := 10) (k' := 11) (d := 14) rfl rfl ⟨_, _, _, rfl, rfl, rfl, rfl⟩ rfl rfl ?_
  refine wl_no (k := 11) (k' := 12) (d := 15) rfl rfl ⟨_, _, _, rfl, rfl, rfl, rfl⟩ rfl rfl ?_
  refine wlo 12 13 rfl rfl rfl (wo_run rfl rfl (run_pickT rfl rfl rfl) ?_)
  refine wla 13 14 rfl rfl rfl rfl rfl rfl rfl ?_
  refine wl_end rfl ?_
  refine nm_sub [(3, _)] ⟨rfl, trivial⟩ ?_
  refine nm_thn ?_
  refine ws_ret hC [_] rfl rfl ⟨rfl, trivial⟩ ?_
  exact ⟨_, rfl, (S.pick [] [] (by decide) trivial), (by show Value.bool _ = Value.bool _; refine congrArg Value.bool ?_; unfold wrongB; first | (symm; rw [decide_eq_true_iff]; omega) | (rw [decide_eq_decide]; omega))⟩
 ·have hg6 := of_decide_eq_false hg6
  refine wl_opG (k := 3) (k' := 4) rfl rfl ⟨_, _, _, rfl, rfl, rfl, rfl⟩ rfl (wo_run rfl rfl (run_move rfl rfl) ?_)
  refine wl_opG (k := 4) (k' := 5) rfl rfl ⟨_, _, _, rfl, rfl, rfl, rfl⟩ rfl (wo_run rfl rfl (run_load1 rfl rfl Try.underlying3 rfl (hb.cell S.um rfl)) ?_)
  refine wl_opG (k := 5) (k' := 6) rfl rfl ⟨_, _, _, rfl, rfl, rfl, rfl⟩ rfl (wo_run rfl rfl (run_geq rfl rfl rfl) ?_)
  refine wlo 6 7 rfl rfl rfl (wo_run rfl rfl (run_pickF rfl rfl rfl) ?_)
  refine wlm 7 8 rfl rfl rfl rfl rfl rfl rfl ?_
  refine wl_split (t := 11) rfl (fun hg11 => ?_) (fun hg11 => ?_)
  ·have hg11 := of_decide_eq_true hg11
   refine wl_no (k := 8) (k' := 9) (d := 12) rfl rfl ⟨_, _, _, rfl, rfl, rfl, rfl⟩ rfl rfl ?_
   refine wl_no (k := 9) (k' := 10) (d := 13) rfl rfl ⟨_, _, _, rfl, rfl, rfl, rfl⟩ rfl rfl ?_
   refine wl_no (k := 10) (k' := 11) (d := 14) rfl rfl ⟨_, _, _, rfl, rfl, rfl, rfl⟩ rfl rfl ?_
   refine wl_no (k := 11) (k' := 12) (d := 15) rfl rfl ⟨_, _, _, rfl, rfl, rfl, rfl⟩ rfl rfl ?_
   refine wlo 12 13 rfl rfl rfl (wo_run rfl rfl (run_pickT rfl rfl rfl) ?_)
   refine wla 13 14 rfl rfl rfl rfl rfl rfl rfl ?_
   refine wl_end rfl ?_
   refine nm_sub [(3, _)] ⟨rfl, trivial⟩ ?_
   refine nm_thn ?_
   refine ws_ret hC [_] rfl rfl ⟨rfl, trivial⟩ ?_
   exact ⟨_, rfl, (S.pick [] [] (by decide) trivial), (by show Value.bool _ = Value.bool _; refine congrArg Value.bool ?_; unfold wrongB; first | (symm; rw [decide_eq_true_iff]; omega) | (rw [decide_eq_decide]; omega))⟩
  ·have hg11 := of_decide_eq_false hg11
   refine wl_opG (k := 8) (k' := 9) rfl rfl ⟨_, _, _, rfl, rfl, rfl, rfl⟩ rfl (wo_run rfl rfl (run_move rfl rfl) ?_)
   refine wl_opG (k := 9) (k' := 10) rfl rfl ⟨_, _, _, rfl, rfl, rfl, rfl⟩ rfl (wo_run rfl rfl (run_load1 rfl rfl Try.underlying3 rfl (hb.cell S.um rfl)) ?_)
   refine wl_opG (k := 10) (k' := 11) rfl rfl ⟨_, _, _, rfl, rfl, rfl, rfl⟩ rfl (wo_run rfl rfl (run_neg rfl rfl (by first | omega | (simp only [lens]; omega))) ?_)
   refine wl_opG (k := 11) (k' := 12) rfl rfl ⟨_, _, _, rfl, rfl, rfl, rfl⟩ rfl (wo_run rfl rfl (run_leq rfl rfl rfl) ?_)
   refine wlo 12 13 rfl rfl rfl (wo_run rfl rfl (run_pickF rfl rfl rfl) ?_)
   refine wla 13 14 rfl rfl rfl rfl rfl rfl rfl ?_
   refine wl_end rfl ?_
   refine nm_sub [(3, _)] ⟨rfl, trivial⟩ ?_
   refine nm_thn ?_
   refine ws_ret hC [_] rfl rfl ⟨rfl, trivial⟩ ?_
   exact ⟨_, rfl, (S.pick [] [] (by decide) trivial), (by show Value.bool _ = Value.bool _; refine congrArg Value.bool ?_; unfold wrongB; first | (symm; rw [decide_eq_true_iff]; omega) | (rw [decide_eq_decide]; omega))⟩
theorem anyF {α : Type} [Inhabited α] {p : α → Bool} {xs : List α} (h : ∀ j, j < xs.length → p (ga xs j) = false) : xs.any p = false := by
 rw [List.any_eq_false]
 intro x hx
 obtain ⟨j, hj, rfl⟩ := List.mem_iff_getElem.1 hx
 rw [← ga_eq hj, h j hj]; simp
noncomputable def Check_n0 : Code := Try.f62.body.getD .skip
noncomputable def Check_n1 : Code := cL Check_n0
noncomputable def Check_n2 : Code := cR Check_n0
noncomputable def Check_n3 : Code := cL Check_n2
noncomputable def Check_n4 : Code := cR Check_n2
noncomputable def Check_n5 : Code := cL Check_n3
noncomputable def Check_n6 : Code := cR Check_n3
noncomputable def Check_n7 : Code := cL Check_n6
noncomputable def Check_n8 : Code := cR Check_n6
noncomputable def Check_n9 : Code := cL Check_n7
noncomputable def Check_n10 : Code := cR Check_n7
noncomputable def Check_n11 : Code := cL Check_n4
noncomputable def Check_n12 : Code := cR Check_n4
noncomputable def Check_n13 : Code := cL Check_n12
noncomputable def Check_n14 : Code := cR Check_n12
noncomputable def Check_n15 : Code := cL Check_n13
noncomputable def Check_n16 : Code := cR Check_n13
noncomputable def Check_n17 : Code := cL Check_n16
noncomputable def Check_n18 : Code := cL Check_n17
noncomputable def Check_n19 : Code := cL Check_n18
noncomputable def Check_n20 : Code := cR Check_n18
noncomputable def Check_n21 : Code := cL Check_n20
noncomputable def Check_n22 : Code := cR Check_n20
noncomputable def Check_n23 : Code := cL Check_n21
noncomputable def Check_n24 : Code := cR Check_n21
noncomputable def Check_n25 : Code := cL Check_n22
noncomputable def Check_n26 : Code := cR Check_n22
noncomputable def Check_n27 : Code := cL Check_n25
noncomputable def Check_n28 : Code := cL Check_n27
noncomputable def Check_n29 : Code := cR Check_n27
noncomputable def Check_n30 : Code := cL Check_n29
noncomputable def Check_n31 : Code := cR Check_n29
noncomputable def Check_n32 : Code := cL Check_n31
noncomputable def Check_n33 : Code := cR Check_n31
noncomputable def Check_n34 : Code := cL Check_n32
noncomputable def Check_n35 : Code := cR Check_n32
noncomputable def Check_n36 : Code := cL Check_n14
noncomputable def Check_n37 : Code := cR Check_n14
noncomputable def Check_n38 : Code := cL Check_n36
noncomputable def Check_n39 : Code := cR Check_n36
noncomputable def Check_n40 : Code := cL Check_n39
noncomputable def Check_n41 : Code := cL Check_n40
noncomputable def Check_n42 : Code := cL Check_n41
noncomputable def Check_n43 : Code := cR Check_n41
noncomputable def Check_n44 : Code := cL Check_n43
noncomputable def Check_n45 : Code := cR Check_n43
noncomputable def Check_n46 : Code := cL Check_n44
noncomputable def Check_n47 : Code := cR Check_n44
noncomputable def Check_n48 : Code := cL Check_n45
noncomputable def Check_n49 : Code := cR Check_n45
noncomputable def Check_n50 : Code := cL Check_n48
noncomputable def Check_n51 : Code := cL Check_n50
noncomputable def Check_n52 : Code := cR Check_n50
noncomputable def Check_n53 : Code := cL Check_n52
noncomputable def Check_n54 : Code := cR Check_n52
noncomputable def Check_n55 : Code := cL Check_n54
noncomputable def Check_n56 : Code := cR Check_n54
noncomputable def Check_n57 : Code := cL Check_n55
noncomputable def Check_n58 : Code := cR Check_n55
noncomputable def Check_n59 : Code := cL Check_n37
noncomputable def Check_n60 : Code := cR Check_n37
set_option maxRecDepth 10000 in
theorem Check_q {w : World} {M : Hp} {X : Fr} (n : Int) (ws : List (List Int)) {wsA : Option Addr} {wsc : Nat} {wsv : List SlV} (hws : RdA (cdV 36) (M.un X.h) wsA wsc wsv) (hdws : Rd2 cdInt (M.un X.h) wsv ws) (S : SH w M X []) : Cq Try.prog 62 [.int .i64 n, .slice wsA wsv.length wsc] w M X (fun u => u = .int .i64 (checkI n ws)) := by
 unfold Cq
 have rmhws : wsv.length * 24 ≤ 140737488355328 := hws.room
 refine calls_in (b := Check_n0) Try.func62 rfl Try.ntmps62 rfl (fun C hC => ?_)
 refine ws_sub [(0, _), (1, _)] ⟨rfl, rfl, trivial⟩ ?_
 refine ws_seqN Check_n1 Check_n2 rfl rfl rfl ?_
 refine ws_region rfl ?_
 refine wlo 0 1 rfl rfl rfl (wo_box (l := [_]) rfl rfl rfl rfl rfl S ?_)
 intro gb1 w1 S1; clear S
 refine wla 1 2 rfl rfl rfl rfl rfl rfl rfl ?_
 refine wl_end rfl ?_
 refine nm_sub [(1, _), (2, _)] ⟨rfl, rfl, trivial⟩ ?_
 refine nm_thn ?_
 refine ws_seqN Check_n3 Check_n4 rfl rfl rfl ?_
 refine ws_seqN Check_n5 Check_n6 rfl rfl rfl ?_
 refine ws_region rfl ?_
 refine wlo 0 1 rfl rfl rfl (wo_run rfl rfl (run_load1 rfl rfl Try.underlying3 rfl (S1.boxc (i := 0) rfl rfl)) ?_)
 refine wlo 1 2 rfl rfl rfl (wo_run rfl rfl (run_lss rfl rfl rfl) ?_)
 refine wlm 2 3 rfl rfl rfl rfl rfl rfl rfl ?_
 refine wl_split (t := 12) rfl (fun hg12 => ?_) (fun hg12 => ?_)
 ·have hg12 := of_decide_eq_true hg12
  refine wl_no (k := 3) (k' := 4) (d := 13) rfl rfl ⟨_, _, _, rfl, rfl, rfl, rfl⟩ rfl rfl ?_
  refine wl_no (k := 4) (k' := 5) (d := 14) rfl rfl ⟨_, _, _, rfl, rfl, rfl, rfl⟩ rfl rfl ?_
  refine wlo 5 6 rfl rfl rfl (wo_run rfl rfl (run_pickT rfl rfl rfl) ?_)
  refine wl_end rfl ?_
  refine nm_sub [(1, _), (2, _), (15, _)] ⟨rfl, rfl, rfl, trivial⟩ ?_
  refine nm_thn ?_
  refine ws_condTN Check_n7 rfl rfl rfl ?_
  refine ws_seqN Check_n9 Check_n10 rfl rfl rfl ?_
  refine ws_region rfl ?_
  refine wla 0 1 rfl rfl rfl rfl rfl rfl rfl ?_
  refine wl_end rfl ?_
  refine nm_sub [(4, _)] ⟨rfl, trivial⟩ ?_
  refine nm_thn ?_
  refine ws_ret hC [_] rfl rfl ⟨rfl, trivial⟩ ?_
  exact ⟨_, rfl, (S1.pick [] [] (by decide) trivial), (by show Value.int _ _ = _; unfold checkI; first | rw [if_pos (by omega)] | rw [if_neg (by omega), if_pos (by rw [List.any_eq_true]; exact ⟨ga ws k, ga_mem (by omega), hb25⟩)])⟩
 ·have hg12 := of_decide_eq_false hg12
  refine wl_opG (k := 3) (k' := 4) rfl rfl ⟨_, _, _, rfl, rfl, rfl, rfl⟩ rfl (wo_run rfl rfl (run_load1 rfl rfl Try.underlying3 rfl (S1.boxc (i := 0) rfl rfl)) ?_)
  refine wl_opG (k := 4) (k' := 5) rfl rfl ⟨_, _, _, rfl, rfl, rfl, rfl⟩ rfl (wo_run rfl rfl (run_gtr rfl rfl rfl) ?_)
  refine wlo 5 6 rfl rfl rfl (wo_run rfl rfl (run_pickF rfl rfl rfl) ?_)
  refine wl_end rfl ?_
  refine nm_sub [(1, _), (2, _), (15, _)] ⟨rfl, rfl, rfl, trivial⟩ ?_
  refine nm_thn ?_
  refine ws_condN Check_n7 Check_n8 rfl rfl rfl rfl (fun hb15 => ?_) (fun hb15 => ?_)
  ·have hb15 := of_decide_eq_true hb15
   refine ws_seqN Check_n9 Check_n10 rfl rfl rfl ?_
   refine ws_region rfl ?_
   refine wla 0 1 rfl rfl rfl rfl rfl rfl rfl ?_
   refine wl_end rfl ?_
   refine nm_sub [(4, _)] ⟨rfl, trivial⟩ ?_
   refine nm_thn ?_
   refine ws_ret hC [_] rfl rfl ⟨rfl, trivial⟩ ?_
   exact ⟨_, rfl, (S1.pick [] [] (by decide) trivial), (by show Value.int _ _ = _; unfold checkI; first | rw [if_pos (by omega)] | rw [if_neg (by omega), if_pos (by rw [List.any_eq_true]; exact ⟨ga ws k, ga_mem (by omega), hb25⟩)])⟩
  ·have hb15 := of_decide_eq_false hb15
   refine ws_skip rfl ?_
   refine nm_sub [(1, _), (2, _)] ⟨rfl, rfl, trivial⟩ ?_
   refine nm_thn ?_
   refine ws_seqN Check_n11 Check_n12 rfl rfl rfl ?_
   refine ws_region rfl ?_
   refine wlo 0 1 rfl rfl rfl (wo_run rfl rfl (run_makeFunc (vs := [_]) rfl rfl rfl rfl) ?_)
   refine wla 1 2 rfl rfl rfl rfl rfl rfl rfl ?_
   refine wl_end rfl ?_
   refine nm_sub [(1, _), (5, _)] ⟨rfl, rfl, trivial⟩ ?_
   refine nm_thn ?_
   refine ws_seqN Check_n13 Check_n14 rfl rfl rfl ?_
   refine ws_seqN Check_n15 Check_n16 rfl rfl rfl ?_
   refine ws_region rfl ?_
   refine wlm 0 1 rfl rfl rfl rfl rfl rfl rfl ?_
   refine wlo 1 2 rfl rfl rfl (wo_run rfl rfl (run_len rfl rfl rfl rfl rfl rfl Try.underlying66) ?_)
   refine wlm 2 3 rfl rfl rfl rfl rfl rfl rfl ?_
   refine wl_end rfl ?_
   refine nm_thn ?_
   refine ws_blockN Check_n17 0 rfl rfl rfl ?_
   refine ws_loopE (fun mx_ ax_ wx_ => ∃ (k : Nat), mx_ = wsv.length - k ∧ Env 37 [(1, .slice wsA wsv.length wsc), (5, .func (.func 101) #[] [.pointer (some ⟨gb1, 0, none⟩)].toArray), (17, .slice wsA wsv.length wsc), (18, .int .i64 (wsv.length : Int)), (19, .int .i64 (k : Int))] ax_ ∧ SH wx_ M X [Rs.box gb1 3 [.int .i64 n]] ∧ k ≤ wsv.length ∧ (∀ j, j < k → (ga ws j).any (wrongB n) = false)) rfl ?_ ?_
   ·intro ax_ hax_
    refine ⟨_, ⟨0, rfl, hax_.sub ⟨rfl, rfl, rfl, rfl, rfl, trivial⟩, S1.pick [0] [_] (by decide) ⟨rfl, trivial⟩, ?hq1f0, ?hq1f1⟩⟩
    case hq1f0 => omega
    case hq1f1 => (intro j hj; omega)
   ·rintro m1 a1 w2 ⟨k, rfl, he1, S2, hk, hno⟩
    clear S1
    refine ws_in he1 (c := Check_n18) rfl ?_
    clear he1 a1
    have hwl := hdws.1
    refine ws_seqN Check_n19 Check_n20 rfl rfl rfl ?_
    refine ws_region rfl ?_
    refine wlo 0 1 rfl rfl rfl (wo_run rfl rfl (run_lss rfl rfl rfl) ?_)
    refine wl_end rfl ?_
    refine nm_thn ?_
    refine ws_seqN Check_n21 Check_n22 rfl rfl rfl ?_
    refine ws_condN Check_n23 Check_n24 rfl rfl rfl rfl (fun hb20 => ?_) (fun hb20 => ?_)
    ·have hb20 := of_decide_eq_true hb20
     refine ws_skip rfl ?_
     refine nm_sub [(1, _), (5, _), (17, _), (18, _), (19, _)] ⟨rfl, rfl, rfl, rfl, rfl, trivial⟩ ?_
     refine nm_thn ?_
     refine ws_seqN Check_n25 Check_n26 rfl rfl rfl ?_
     refine ws_blockN Check_n27 1 rfl rfl rfl ?_
     refine ws_seqN Check_n28 Check_n29 rfl rfl rfl ?_
     refine ws_region rfl ?_
     refine wlo 0 1 rfl rfl rfl (wo_run rfl rfl (run_indexM (C := (cdV 36)) k rfl rfl rfl sl66 (by first | rfl | omega) hws (by first | omega | (simp only [lens]; omega))) ?_)
     obtain ⟨hn1, hr1⟩ := hdws.2 k (by first | omega | (simp only [lens]; omega))
     have rmhr1 : (ga ws k).length * 8 ≤ 140737488355328 := hr1.room
     refine wlo 1 2 rfl rfl rfl (wo_run rfl rfl (run_load1 rfl rfl Try.underlying36 rfl (hws.cell S2.um (i := k) (by first | omega | (simp only [lens]; omega)) 0 rfl (congrArg (fun n => some (Value.slice _ n _)) hn1))) ?_)
     refine wla 2 3 rfl rfl rfl rfl rfl rfl rfl ?_
     refine wl_end rfl ?_
     refine nm_sub [(1, _), (5, _), (17, _), (18, _), (19, _), (7, _)] ⟨rfl, rfl, rfl, rfl, rfl, rfl, trivial⟩ ?_
     refine nm_thn ?_
     refine ws_seqN Check_n30 Check_n31 rfl rfl rfl ?_
     refine ws_region rfl ?_
     refine wlm 0 1 rfl rfl rfl rfl rfl rfl rfl ?_
     refine wlm 1 2 rfl rfl rfl rfl rfl rfl rfl ?_
     refine wlo 2 3 rfl rfl rfl (wo_cq rfl rfl rfl rfl rfl rfl rfl cf102 S2 (ContainsFuncI_q (ga ws k) 101 _ (wrongB n) (hr1.mono S2.un_XH) cf101 (fun w9 Y9 hl9 S9 x9 _ => Check1_q x9 n ((S2.boxM (i := 0) rfl).mono hl9) (by omega) S9) S2.lend) ?_)
     rintro _ w3 S3 rfl; clear S2
     refine wl_end rfl ?_
     refine nm_sub [(1, _), (5, _), (17, _), (18, _), (19, _), (25, _)] ⟨rfl, rfl, rfl, rfl, rfl, rfl, trivial⟩ ?_
     refine nm_thn ?_
     refine ws_condN Check_n32 Check_n33 rfl rfl rfl rfl (fun hb25 => ?_) (fun hb25 => ?_)
     ·refine ws_seqN Check_n34 Check_n35 rfl rfl rfl ?_
      refine ws_region rfl ?_
      refine wla 0 1 rfl rfl rfl rfl rfl rfl rfl ?_
      refine wl_end rfl ?_
      refine nm_sub [(4, _)] ⟨rfl, trivial⟩ ?_
      refine nm_thn ?_
      refine ws_ret hC [_] rfl rfl ⟨rfl, trivial⟩ ?_
      exact ⟨_, rfl, (S3.pick [] [] (by decide) trivial), (by show Value.int _ _ = _; unfold checkI; first | rw [if_pos (by omega)] | rw [if_neg (by omega), if_pos (by rw [List.any_eq_true]; exact ⟨ga ws k, ga_mem (by omega), hb25⟩)])⟩
     ·refine ws_skip rfl ?_
      refine nm_blk ?_
      refine nm_sub [(1, _), (5, _), (17, _), (18, _), (19, _)] ⟨rfl, rfl, rfl, rfl, rfl, trivial⟩ ?_
      refine nm_thn ?_
      refine ws_region rfl ?_
      refine wlo 0 1 rfl rfl rfl (wo_run rfl rfl (run_add rfl rfl rfl (by first | omega | (simp only [lens]; omega))) ?_)
      refine wlm 1 2 rfl rfl rfl rfl rfl rfl rfl ?_
      refine wl_end rfl ?_
      refine nm_lp ?_
      intro ax_ hax_
      refine ⟨_, ?hq2m, ⟨k + 1, rfl, hax_.sub ⟨rfl, rfl, rfl, rfl, rfl, trivial⟩, S3.pick [0] [_] (by decide) ⟨rfl, trivial⟩, ?hq2f0, ?hq2f1⟩⟩
      case hq2f0 => first | assumption | omega
      case hq2f1 => (intro j hj; by_cases h : j = k; (subst h; exact hb25); exact hno j (by omega))
      case hq2m => omega
    ·have hb20 := of_decide_eq_false hb20
     refine ws_exit rfl rfl ?_
     refine nm_sub [(1, _)] ⟨rfl, trivial⟩ ?_
     refine nm_thn ?_
     refine ws_seqN Check_n36 Check_n37 rfl rfl rfl ?_
     refine ws_seqN Check_n38 Check_n39 rfl rfl rfl ?_
     refine ws_region rfl ?_
     refine wlm 0 1 rfl rfl rfl rfl rfl rfl rfl ?_
     refine wlo 1 2 rfl rfl rfl (wo_run rfl rfl (run_len rfl rfl rfl rfl rfl rfl Try.underlying66) ?_)
     refine wlm 2 3 rfl rfl rfl rfl rfl rfl rfl ?_
     refine wl_end rfl ?_
     refine nm_sub [(27, _), (28, _), (29, _)] ⟨rfl, rfl, rfl, trivial⟩ ?_
     refine nm_thn ?_
     refine ws_blockN Check_n40 2 rfl rfl rfl ?_
     refine ws_loopE (fun mx_ ax_ wx_ => ∃ (k2 : Nat), mx_ = wsv.length - k2 ∧ Env 37 [(27, .slice wsA wsv.length wsc), (28, .int .i64 (wsv.length : Int)), (29, .int .i64 (k2 : Int))] ax_ ∧ SH wx_ M X [] ∧ k2 ≤ wsv.length ∧ (∀ j, j < k2 → ¬ 20 < (ga ws j).length)) rfl ?_ ?_
     ·intro ax_ hax_
      refine ⟨_, ⟨0, rfl, hax_.sub ⟨rfl, rfl, rfl, trivial⟩, S2.pick [] [] (by decide) trivial, ?hq3f0, ?hq3f1⟩⟩
      case hq3f0 => omega
      case hq3f1 => (intro j hj; omega)
     ·rintro m2 a2 w4 ⟨k2, rfl, he2, S4, hk2, hno2⟩
      clear S2
      refine ws_in he2 (c := Check_n41) rfl ?_
      clear he2 a2
      refine ws_seqN Check_n42 Check_n43 rfl rfl rfl ?_
      refine ws_region rfl ?_
      refine wlo 0 1 rfl rfl rfl (wo_run rfl rfl (run_lss rfl rfl rfl) ?_)
      refine wl_end rfl ?_
      refine nm_thn ?_
      refine ws_seqN Check_n44 Check_n45 rfl rfl rfl ?_
      refine ws_condN Check_n46 Check_n47 rfl rfl rfl rfl (fun hb30 => ?_) (fun hb30 => ?_)
      ·have hb30 := of_decide_eq_true hb30
       refine ws_skip rfl ?_
       refine nm_sub [(27, _), (28, _), (29, _)] ⟨rfl, rfl, rfl, trivial⟩ ?_
       refine nm_thn ?_
       refine ws_seqN Check_n48 Check_n49 rfl rfl rfl ?_
       refine ws_blockN Check_n50 3 rfl rfl rfl ?_
       refine ws_seqN Check_n51 Check_n52 rfl rfl rfl ?_
       refine ws_region rfl ?_
       refine wlo 0 1 rfl rfl rfl (wo_run rfl rfl (run_indexM (C := (cdV 36)) k2 rfl rfl rfl sl66 (by first | rfl | omega) hws (by first | omega | (simp only [lens]; omega))) ?_)
       obtain ⟨hn2, hr2⟩ := hdws.2 k2 (by first | omega | (simp only [lens]; omega))
       have rmhr2 : (ga ws k2).length * 8 ≤ 140737488355328 := hr2.room
       refine wlo 1 2 rfl rfl rfl (wo_run rfl rfl (run_load1 rfl rfl Try.underlying36 rfl (hws.cell S4.um (i := k2) (by first | omega | (simp only [lens]; omega)) 0 rfl (congrArg (fun n => some (Value.slice _ n _)) hn2))) ?_)
       refine wla 2 3 rfl rfl rfl rfl rfl rfl rfl ?_
       refine wl_end rfl ?_
       refine nm_sub [(27, _), (28, _), (29, _), (9, _)] ⟨rfl, rfl, rfl, rfl, trivial⟩ ?_
       refine nm_thn ?_
       refine ws_seqN Check_n53 Check_n54 rfl rfl rfl ?_
       refine ws_region rfl ?_
       refine wlm 0 1 rfl rfl rfl rfl rfl rfl rfl ?_
       refine wlo 1 2 rfl rfl rfl (wo_run rfl rfl (run_len rfl rfl rfl rfl rfl rfl Try.underlying36) ?_)
       refine wlo 2 3 rfl rfl rfl (wo_run rfl rfl (run_gtr rfl rfl rfl) ?_)
       refine wl_end rfl ?_
       refine nm_sub [(27, _), (28, _), (29, _), (35, _)] ⟨rfl, rfl, rfl, rfl, trivial⟩ ?_
       refine nm_thn ?_
       refine ws_condN Check_n55 Check_n56 rfl rfl rfl rfl (fun hb35 => ?_) (fun hb35 => ?_)
       ·have hb35 := of_decide_eq_true hb35
        refine ws_seqN Check_n57 Check_n58 rfl rfl rfl ?_
        refine ws_region rfl ?_
        refine wla 0 1 rfl rfl rfl rfl rfl rfl rfl ?_
        refine wl_end rfl ?_
        refine nm_sub [(4, _)] ⟨rfl, trivial⟩ ?_
        refine nm_thn ?_
        refine ws_ret hC [_] rfl rfl ⟨rfl, trivial⟩ ?_
        exact ⟨_, rfl, (S4.pick [] [] (by decide) trivial), (by show Value.int _ _ = _; unfold checkI; rw [if_neg (by omega), if_neg (by rw [anyF (fun j hj => hno j (by omega))]; exact Bool.false_ne_true), if_pos (by rw [List.any_eq_true]; exact ⟨ga ws k2, ga_mem (by omega), by rw [decide_eq_true_iff]; omega⟩)])⟩
       ·have hb35 := of_decide_eq_false hb35
        refine ws_skip rfl ?_
        refine nm_blk ?_
        refine nm_sub [(27, _), (28, _), (29, _)] ⟨rfl, rfl, rfl, trivial⟩ ?_
        refine nm_thn ?_
        refine ws_region rfl ?_
        refine wlo 0 1 rfl rfl rfl (wo_run rfl rfl (run_add rfl rfl rfl (by first | omega | (simp only [lens]; omega))) ?_)
        refine wlm 1 2 rfl rfl rfl rfl rfl rfl rfl ?_
        refine wl_end rfl ?_
        refine nm_lp ?_
        intro ax_ hax_
        refine ⟨_, ?hq4m, ⟨k2 + 1, rfl, hax_.sub ⟨rfl, rfl, rfl, trivial⟩, S4.pick [] [] (by decide) trivial, ?hq4f0, ?hq4f1⟩⟩
        case hq4f0 => first | assumption | omega
        case hq4f1 => (intro j hj; by_cases h : j = k2; (subst h; omega); exact hno2 j (by omega))
        case hq4m => omega
      ·have hb30 := of_decide_eq_false hb30
       refine ws_exit rfl rfl ?_
       refine nm_sub [] trivial ?_
       refine nm_thn ?_
       refine ws_seqN Check_n59 Check_n60 rfl rfl rfl ?_
       refine ws_region rfl ?_
       refine wla 0 1 rfl rfl rfl rfl rfl rfl rfl ?_
       refine wl_end rfl ?_
       refine nm_thn ?_
       refine ws_ret hC [_] rfl rfl ⟨rfl, trivial⟩ ?_
       exact ⟨_, rfl, (S4.pick [] [] (by decide) trivial), (by show Value.int _ _ = _; unfold checkI; rw [if_neg (by omega), if_neg (by rw [anyF (fun j hj => hno j (by omega))]; exact Bool.false_ne_true), if_neg (by rw [anyF (p := fun w : List Int => decide (20 < w.length)) (fun j hj => decide_eq_false (hno2 j (by omega)))]; exact Bool.false_ne_true)])⟩
end Go.Proofs.Ytkcighnochjlgaa
namespace Go.Proofs.Ytkcighnochjlgaa
open Go.ChangeShapes Go.WideShapes Go.ChangeAt Go.RowKit
def IsE (xs : List Int) (u : Value) (M : Hp) : Prop := ∃ A c, u = .slice A xs.length c ∧ RdA cdInt M A c xs
def mayI (n : Int) (u v : List Int) : Int := if n < 2 ∨ 6 < n then 3 else if (u ++ v).any (wrongB n) then 3 else if 20 < u.length ∨ 20 < v.length then 2 else 0
theorem mayI_check (n : Int) (u : List Int) : mayI n u [] = checkI n [u] := by
 unfold mayI checkI
 simp
theorem check_ok {n : Int} {l : List Int} (h : checkI n [l] = 0) : 2 ≤ n ∧ n ≤ 6 ∧ l.length ≤ 20 ∧ ∀ k, k < l.length → 1 ≤ max (ga l k) (-(ga l k)) ∧ max (ga l k) (-(ga l k)) < n := by
 unfold checkI at h
 split at h
 ·cases h
 ·split at h
  ·cases h
  ·split at h
   ·cases h
   ·rename_i h1 h2 h3
    simp only [List.any_cons, List.any_nil, Bool.or_false, decide_eq_true_iff] at h2 h3
    refine ⟨by omega, by omega, by omega, fun k hk => ?_⟩
    have h4 : wrongB n (ga l k) = false := by
     cases hb : wrongB n (ga l k) with
     | false => rfl
     | true => exact absurd (List.any_eq_true.2 ⟨_, ga_mem hk, hb⟩) h2
    unfold wrongB at h4
    rw [decide_eq_false_iff_not] at h4
    omega
noncomputable def WordsMay_n0 : Code := Try.f27.body.getD .skip
noncomputable def WordsMay_n1 : Code := cL WordsMay_n0
noncomputable def WordsMay_n2 : Code := cR WordsMay_n0
noncomputable def WordsMay_n3 : Code := cL WordsMay_n2
noncomputable def WordsMay_n4 : Code := cR WordsMay_n2
noncomputable def WordsMay_n5 : Code := cL WordsMay_n3
noncomputable def WordsMay_n6 : Code := cR WordsMay_n3
noncomputable def WordsMay_n7 : Code := cL WordsMay_n6
noncomputable def WordsMay_n8 : Code := cR WordsMay_n6
noncomputable def WordsMay_n9 : Code := cL WordsMay_n7
noncomputable def WordsMay_n10 : Code := cR WordsMay_n7
noncomputable def WordsMay_n11 : Code := cL WordsMay_n4
noncomputable def WordsMay_n12 : Code := cR WordsMay_n4
noncomputable def WordsMay_n13 : Code := cL WordsMay_n12
noncomputable def WordsMay_n14 : Code := cR WordsMay_n12
noncomputable def WordsMay_n15 : Code := cL WordsMay_n13
noncomputable def WordsMay_n16 : Code := cR WordsMay_n13
noncomputable def WordsMay_n17 : Code := cL WordsMay_n16
noncomputable def WordsMay_n18 : Code := cL WordsMay_n17
noncomputable def WordsMay_n19 : Code := cL WordsMay_n18
noncomputable def WordsMay_n20 : Code := cR WordsMay_n18
noncomputable def WordsMay_n21 : Code := cL WordsMay_n19
noncomputable def WordsMay_n22 : Code := cR WordsMay_n19
noncomputable def WordsMay_n23 : Code := cL WordsMay_n22
noncomputable def WordsMay_n24 : Code := cR WordsMay_n22
noncomputable def WordsMay_n25 : Code := cL WordsMay_n20
noncomputable def WordsMay_n26 : Code := cR WordsMay_n20
noncomputable def WordsMay_n27 : Code := cL WordsMay_n25
noncomputable def WordsMay_n28 : Code := cL WordsMay_n27
noncomputable def WordsMay_n29 : Code := cR WordsMay_n27
noncomputable def WordsMay_n30 : Code := cL WordsMay_n29
noncomputable def WordsMay_n31 : Code := cR WordsMay_n29
noncomputable def WordsMay_n32 : Code := cL WordsMay_n30
noncomputable def WordsMay_n33 : Code := cR WordsMay_n30
noncomputable def WordsMay_n34 : Code := cL WordsMay_n14
noncomputable def WordsMay_n35 : Code := cR WordsMay_n14
noncomputable def WordsMay_n36 : Code := cL WordsMay_n34
noncomputable def WordsMay_n37 : Code := cR WordsMay_n34
noncomputable def WordsMay_n38 : Code := cL WordsMay_n37
noncomputable def WordsMay_n39 : Code := cR WordsMay_n37
noncomputable def WordsMay_n40 : Code := cL WordsMay_n38
noncomputable def WordsMay_n41 : Code := cR WordsMay_n38
noncomputable def WordsMay_n42 : Code := cL WordsMay_n35
noncomputable def WordsMay_n43 : Code := cR WordsMay_n35
set_option maxRecDepth 10000 in
theorem WordsMay_q {w : World} {M : Hp} {X : Fr} (n : Int) (p : List Int) {pA : Option Addr} {pc : Nat} (q : List Int) {qA : Option Addr} {qc : Nat} (hp : RdA cdInt (M.un X.h) pA pc p) (hq : RdA cdInt (M.un X.h) qA qc q) (hro : (p.length + q.length) * 8 ≤ 140737488355328) (S : SH w M X []) : Cq Try.prog 27 [.int .i64 n, .slice pA p.length pc, .slice qA q.length qc] w M X (fun u => u = .int .i64 (mayI n p q)) := by
 unfold Cq
 have rmhp : p.length * 8 ≤ 140737488355328 := hp.room
 have rmhq : q.length * 8 ≤ 140737488355328 := hq.room
 have huv : (p ++ q).length = p.length + q.length := List.length_append
 refine calls_in (b := WordsMay_n0) Try.func27 rfl Try.ntmps27 rfl (fun C hC => ?_)
 refine ws_sub [(0, _), (1, _), (2, _)] ⟨rfl, rfl, rfl, trivial⟩ ?_
 refine ws_seqN WordsMay_n1 WordsMay_n2 rfl rfl rfl ?_
 refine ws_region rfl ?_
 refine wla 0 1 rfl rfl rfl rfl rfl rfl rfl ?_
 refine wl_end rfl ?_
 refine nm_sub [(0, _), (1, _), (2, _)] ⟨rfl, rfl, rfl, trivial⟩ ?_
 refine nm_thn ?_
 refine ws_seqN WordsMay_n3 WordsMay_n4 rfl rfl rfl ?_
 refine ws_seqN WordsMay_n5 WordsMay_n6 rfl rfl rfl ?_
 refine ws_region rfl ?_
 refine wlm 0 1 rfl rfl rfl rfl rfl rfl rfl ?_
 refine wlo 1 2 rfl rfl rfl (wo_run rfl rfl (run_lss rfl rfl rfl) ?_)
 refine wlm 2 3 rfl rfl rfl rfl rfl rfl rfl ?_
 refine wl_split (t := 11) rfl (fun hg11 => ?_) (fun hg11 => ?_)
 ·have hg11 := of_decide_eq_true hg11
  refine wl_no (k := 3) (k' := 4) (d := 12) rfl rfl ⟨_, _, _, rfl, rfl, rfl, rfl⟩ rfl rfl ?_
  refine wl_no (k := 4) (k' := 5) (d := 13) rfl rfl ⟨_, _, _, rfl, rfl, rfl, rfl⟩ rfl rfl ?_
  refine wlo 5 6 rfl rfl rfl (wo_run rfl rfl (run_pickT rfl rfl rfl) ?_)
  refine wl_end rfl ?_
  refine nm_sub [(0, _), (1, _), (2, _), (14, _)] ⟨rfl, rfl, rfl, rfl, trivial⟩ ?_
  refine nm_thn ?_
  refine ws_condTN WordsMay_n7 rfl rfl rfl ?_
  refine ws_seqN WordsMay_n9 WordsMay_n10 rfl rfl rfl ?_
  refine ws_region rfl ?_
  refine wla 0 1 rfl rfl rfl rfl rfl rfl rfl ?_
  refine wl_end rfl ?_
  refine nm_sub [(6, _)] ⟨rfl, trivial⟩ ?_
  refine nm_thn ?_
  refine ws_ret hC [_] rfl rfl ⟨rfl, trivial⟩ ?_
  exact ⟨_, rfl, (S.pick [] [] (by decide) trivial), (by show Value.int _ _ = _; unfold mayI; first | rw [if_pos (by omega)] | rw [if_neg (by omega), if_pos (by rw [List.any_eq_true]; exact ⟨ga (p ++ q) k, ga_mem (xs := p ++ q) (i := k) (by omega), by unfold wrongB; rw [decide_eq_true_iff]; omega⟩)])⟩
 ·have hg11 := of_decide_eq_false hg11
  refine wl_opG (k := 3) (k' := 4) rfl rfl ⟨_, _, _, rfl, rfl, rfl, rfl⟩ rfl (wo_run rfl rfl (run_move rfl rfl) ?_)
  refine wl_opG (k := 4) (k' := 5) rfl rfl ⟨_, _, _, rfl, rfl, rfl, rfl⟩ rfl (wo_run rfl rfl (run_gtr rfl rfl rfl) ?_)
  refine wlo 5 6 rfl rfl rfl (wo_run rfl rfl (run_pickF rfl rfl rfl) ?_)
  refine wl_end rfl ?_
  refine nm_sub [(0, _), (1, _), (2, _), (14, _)] ⟨rfl, rfl, rfl, rfl, trivial⟩ ?_
  refine nm_thn ?_
  refine ws_condN WordsMay_n7 WordsMay_n8 rfl rfl rfl rfl (fun hb14 => ?_) (fun hb14 => ?_)
  ·have hb14 := of_decide_eq_true hb14
   refine ws_seqN WordsMay_n9 WordsMay_n10 rfl rfl rfl ?_
   refine ws_region rfl ?_
   refine wla 0 1 rfl rfl rfl rfl rfl rfl rfl ?_
   refine wl_end rfl ?_
   refine nm_sub [(6, _)] ⟨rfl, trivial⟩ ?_
   refine nm_thn ?_
   refine ws_ret hC [_] rfl rfl ⟨rfl, trivial⟩ ?_
   exact ⟨_, rfl, (S.pick [] [] (by decide) trivial), (by show Value.int _ _ = _; unfold mayI; first | rw [if_pos (by omega)] | rw [if_neg (by omega), if_pos (by rw [List.any_eq_true]; exact ⟨ga (p ++ q) k, ga_mem (xs := p ++ q) (i := k) (by omega), by unfold wrongB; rw [decide_eq_true_iff]; omega⟩)])⟩
  ·have hb14 := of_decide_eq_false hb14
   refine ws_skip rfl ?_
   refine nm_sub [(0, _), (1, _), (2, _)] ⟨rfl, rfl, rfl, trivial⟩ ?_
   refine nm_thn ?_
   refine ws_seqN WordsMay_n11 WordsMay_n12 rfl rfl rfl ?_
   refine ws_region rfl ?_
   refine wlm 0 1 rfl rfl rfl rfl rfl rfl rfl ?_
   have S1 := S.nilrow cdInt; clear S
   refine wlo 1 2 rfl rfl rfl (wo_appendM (C := cdInt) (i := 0) rfl rfl rfl rfl rfl rfl rfl rfl sl36 S1 rfl hp S1.um (by have h : _ * 8 ≤ _ := hp.room; show (0 + _) * 8 ≤ _; first | omega | (simp only [lens]; omega)) ?_)
   intro vr2 w1 S2; clear S1
   change SH _ _ _ [Rs.row cdInt vr2 p] at S2
   refine wlm 2 3 rfl rfl rfl rfl rfl rfl rfl ?_
   refine wlo 3 4 rfl rfl rfl (wo_appendM (C := cdInt) (i := 0) rfl rfl rfl rfl rfl rfl rfl rfl sl36 S2 rfl hq S2.um (by show (_ + _) * 8 ≤ _; first | omega | (simp only [lens]; omega)) ?_)
   intro vr3 w2 S3; clear S2
   change SH _ _ _ [Rs.row cdInt vr3 (p ++ q)] at S3
   refine wla 4 5 rfl rfl rfl rfl rfl rfl rfl ?_
   refine wl_end rfl ?_
   refine nm_sub [(0, _), (1, _), (2, _), (7, _)] ⟨rfl, rfl, rfl, rfl, trivial⟩ ?_
   refine nm_thn ?_
   refine ws_seqN WordsMay_n13 WordsMay_n14 rfl rfl rfl ?_
   refine ws_seqN WordsMay_n15 WordsMay_n16 rfl rfl rfl ?_
   refine ws_region rfl ?_
   refine wla 0 1 rfl rfl rfl rfl rfl rfl rfl ?_
   refine wl_end rfl ?_
   refine nm_thn ?_
   refine ws_blockN WordsMay_n17 0 rfl rfl rfl ?_
   refine ws_loopE (fun mx_ ax_ wx_ => ∃ (k : Nat) (acc : List Int) (vro : Value), mx_ = acc.length - k ∧ Env 55 [(0, .int .i64 n), (1, .slice pA p.length pc), (2, .slice qA q.length qc), (7, vro), (8, .int .i64 (k : Int))] ax_ ∧ SH wx_ M X [Rs.row cdInt vro acc] ∧ k ≤ acc.length ∧ acc = p ++ q ∧ (∀ j, j < k → wrongB n (ga (p ++ q) j) = false)) rfl ?_ ?_
   ·intro ax_ hax_
    refine ⟨_, ⟨0, _, _, rfl, hax_.sub ⟨rfl, rfl, rfl, rfl, rfl, trivial⟩, S3.pick [0] [_] (by decide) ⟨rfl, trivial⟩, ?hq1f0, ?hq1f1, ?hq1f2⟩⟩
    case hq1f0 => omega
    case hq1f1 => rfl
    case hq1f2 => (intro j hj; omega)
   ·rintro m1 a1 w3 ⟨k, acc, vro, rfl, he1, S4, hk, hacc, hno⟩
    clear S3
    refine ws_in he1 (c := WordsMay_n18) rfl ?_
    clear he1 a1
    subst hacc
    refine ws_seqN WordsMay_n19 WordsMay_n20 rfl rfl rfl ?_
    refine ws_seqN WordsMay_n21 WordsMay_n22 rfl rfl rfl ?_
    refine ws_region rfl ?_
    refine wlm 0 1 rfl rfl rfl rfl rfl rfl rfl ?_
    refine wlm 1 2 rfl rfl rfl rfl rfl rfl rfl ?_
    refine wlo 2 3 rfl rfl rfl (wo_run rfl rfl (run_lenR (C := cdInt) (i := 0) rfl rfl rfl rfl rfl rfl sl36 S4 rfl) ?_)
    refine wlo 3 4 rfl rfl rfl (wo_run rfl rfl (run_lss rfl rfl rfl) ?_)
    refine wl_end rfl ?_
    refine nm_sub [(0, _), (1, _), (2, _), (7, _), (8, _), (22, _)] ⟨rfl, rfl, rfl, rfl, rfl, rfl, trivial⟩ ?_
    refine nm_thn ?_
    refine ws_condN WordsMay_n23 WordsMay_n24 rfl rfl rfl rfl (fun hb22 => ?_) (fun hb22 => ?_)
    ·have hb22 := of_decide_eq_true hb22
     refine ws_skip rfl ?_
     refine nm_sub [(0, _), (1, _), (2, _), (7, _), (8, _)] ⟨rfl, rfl, rfl, rfl, rfl, trivial⟩ ?_
     refine nm_thn ?_
     refine ws_seqN WordsMay_n25 WordsMay_n26 rfl rfl rfl ?_
     refine ws_blockN WordsMay_n27 1 rfl rfl rfl ?_
     refine ws_seqN WordsMay_n28 WordsMay_n29 rfl rfl rfl ?_
     refine ws_region rfl ?_
     refine wlm 0 1 rfl rfl rfl rfl rfl rfl rfl ?_
     refine wlm 1 2 rfl rfl rfl rfl rfl rfl rfl ?_
     refine wlo 2 3 rfl rfl rfl (wo_run rfl rfl (run_indexR (C := cdInt) (i := 0) k rfl rfl rfl sl36 S4 rfl (by first | rfl | omega) (by first | omega | (simp only [lens]; omega))) ?_)
     refine wlo 3 4 rfl rfl rfl (wo_run rfl rfl (run_load1 rfl rfl Try.underlying3 rfl (S4.rowc (i := 0) (e := k) (j := 0) rfl (by first | omega | (simp only [lens]; omega)) rfl rfl)) ?_)
     refine wlo 4 5 rfl rfl rfl (wo_run rfl rfl (run_eql rfl rfl rfl) ?_)
     refine wlm 5 6 rfl rfl rfl rfl rfl rfl rfl ?_
     refine wl_split (t := 30) rfl (fun hg30 => ?_) (fun hg30 => ?_)
     ·have hg30 := of_decide_eq_true hg30
      refine wl_no (k := 6) (k' := 7) (d := 31) rfl rfl ⟨_, _, _, rfl, rfl, rfl, rfl⟩ rfl rfl ?_
      refine wl_no (k := 7) (k' := 8) (d := 32) rfl rfl ⟨_, _, _, rfl, rfl, rfl, rfl⟩ rfl rfl ?_
      refine wl_no (k := 8) (k' := 9) (d := 33) rfl rfl ⟨_, _, _, rfl, rfl, rfl, rfl⟩ rfl rfl ?_
      refine wl_no (k := 9) (k' := 10) (d := 34) rfl rfl ⟨_, _, _, rfl, rfl, rfl, rfl⟩ rfl rfl ?_
      refine wl_no (k := 10) (k' := 11) (d := 35) rfl rfl ⟨_, _, _, rfl, rfl, rfl, rfl⟩ rfl rfl ?_
      refine wl_no (k := 11) (k' := 12) (d := 36) rfl rfl ⟨_, _, _, rfl, rfl, rfl, rfl⟩ rfl rfl ?_
      refine wl_no (k := 12) (k' := 13) (d := 37) rfl rfl ⟨_, _, _, rfl, rfl, rfl, rfl⟩ rfl rfl ?_
      refine wlo 13 14 rfl rfl rfl (wo_run rfl rfl (run_pickT rfl rfl rfl) ?_)
      refine wlm 14 15 rfl rfl rfl rfl rfl rfl rfl ?_
      refine wl_no (k := 15) (k' := 16) (d := 40) rfl rfl ⟨_, _, _, rfl, rfl, rfl, rfl⟩ rfl rfl ?_
      refine wl_no (k := 16) (k' := 17) (d := 41) rfl rfl ⟨_, _, _, rfl, rfl, rfl, rfl⟩ rfl rfl ?_
      refine wl_no (k := 17) (k' := 18) (d := 42) rfl rfl ⟨_, _, _, rfl, rfl, rfl, rfl⟩ rfl rfl ?_
      refine wl_no (k := 18) (k' := 19) (d := 43) rfl rfl ⟨_, _, _, rfl, rfl, rfl, rfl⟩ rfl rfl ?_
      refine wl_no (k := 19) (k' := 20) (d := 44) rfl rfl ⟨_, _, _, rfl, rfl, rfl, rfl⟩ rfl rfl ?_
      refine wl_no (k := 20) (k' := 21) (d := 45) rfl rfl ⟨_, _, _, rfl, rfl, rfl, rfl⟩ rfl rfl ?_
      refine wlo 21 22 rfl rfl rfl (wo_run rfl rfl (run_pickT rfl rfl rfl) ?_)
      refine wl_end rfl ?_
      refine nm_sub [(0, _), (1, _), (2, _), (7, _), (8, _), (46, _)] ⟨rfl, rfl, rfl, rfl, rfl, rfl, trivial⟩ ?_
      refine nm_thn ?_
      refine ws_condTN WordsMay_n30 rfl rfl rfl ?_
      refine ws_seqN WordsMay_n32 WordsMay_n33 rfl rfl rfl ?_
      refine ws_region rfl ?_
      refine wla 0 1 rfl rfl rfl rfl rfl rfl rfl ?_
      refine wl_end rfl ?_
      refine nm_sub [(6, _)] ⟨rfl, trivial⟩ ?_
      refine nm_thn ?_
      refine ws_ret hC [_] rfl rfl ⟨rfl, trivial⟩ ?_
      exact ⟨_, rfl, (S4.pick [] [] (by decide) trivial), (by show Value.int _ _ = _; unfold mayI; first | rw [if_pos (by omega)] | rw [if_neg (by omega), if_pos (by rw [List.any_eq_true]; exact ⟨ga (p ++ q) k, ga_mem (xs := p ++ q) (i := k) (by omega), by unfold wrongB; rw [decide_eq_true_iff]; omega⟩)])⟩
     ·have hg30 := of_decide_eq_false hg30
      refine wl_opG (k := 6) (k' := 7) rfl rfl ⟨_, _, _, rfl, rfl, rfl, rfl⟩ rfl (wo_run rfl rfl (run_move rfl rfl) ?_)
      refine wl_opG (k := 7) (k' := 8) rfl rfl ⟨_, _, _, rfl, rfl, rfl, rfl⟩ rfl (wo_run rfl rfl (run_move rfl rfl) ?_)
      refine wl_opG (k := 8) (k' := 9) rfl rfl ⟨_, _, _, rfl, rfl, rfl, rfl⟩ rfl (wo_run rfl rfl (run_indexR (C := cdInt) (i := 0) k rfl rfl rfl sl36 S4 rfl (by first | rfl | omega) (by first | omega | (simp only [lens]; omega))) ?_)
      refine wl_opG (k := 9) (k' := 10) rfl rfl ⟨_, _, _, rfl, rfl, rfl, rfl⟩ rfl (wo_run rfl rfl (run_load1 rfl rfl Try.underlying3 rfl (S4.rowc (i := 0) (e := k) (j := 0) rfl (by first | omega | (simp only [lens]; omega)) rfl rfl)) ?_)
      refine wl_opG (k := 10) (k' := 11) rfl rfl ⟨_, _, _, rfl, rfl, rfl, rfl⟩ rfl (wo_run rfl rfl (run_move rfl rfl) ?_)
      refine wl_opG (k := 11) (k' := 12) rfl rfl ⟨_, _, _, rfl, rfl, rfl, rfl⟩ rfl (wo_run rfl rfl (run_neg rfl rfl (by first | omega | (simp only [lens]; omega))) ?_)
      refine wl_opG (k := 12) (k' := 13) rfl rfl ⟨_, _, _, rfl, rfl, rfl, rfl⟩ rfl (wo_run rfl rfl (run_leq rfl rfl rfl) ?_)
      refine wlo 13 14 rfl rfl rfl (wo_run rfl rfl (run_pickF rfl rfl rfl) ?_)
      refine wlm 14 15 rfl rfl rfl rfl rfl rfl rfl ?_
      refine wl_split (t := 39) rfl (fun hg39 => ?_) (fun hg39 => ?_)
      ·have hg39 := of_decide_eq_true hg39
       refine wl_no (k := 15) (k' := 16) (d := 40) rfl rfl ⟨_, _, _, rfl, rfl, rfl, rfl⟩ rfl rfl ?_
       refine wl_no (k := 16) (k' := 17) (d := 41) rfl rfl ⟨_, _, _, rfl, rfl, rfl, rfl⟩ rfl rfl ?_
       refine wl_no (k := 17) (k' := 18) (d := 42) rfl rfl ⟨_, _, _, rfl, rfl, rfl, rfl⟩ rfl rfl ?_
       refine wl_no (k := 18) (k' := 19) (d := 43) rfl rfl ⟨_, _, _, rfl, rfl, rfl, rfl⟩ rfl rfl ?_
       refine wl_no (k := 19) (k' := 20) (d := 44) rfl rfl ⟨_, _, _, rfl, rfl, rfl, rfl⟩ rfl rfl ?_
       refine wl_no (k := 20) (k' := 21) (d := 45) rfl rfl ⟨_, _, _, rfl, rfl, rfl, rfl⟩ rfl rfl ?_
       refine wlo 21 22 rfl rfl rfl (wo_run rfl rfl (run_pickT rfl rfl rfl) ?_)
       refine wl_end rfl ?_
       refine nm_sub [(0, _), (1, _), (2, _), (7, _), (8, _), (46, _)] ⟨rfl, rfl, rfl, rfl, rfl, rfl, trivial⟩ ?_
       refine nm_thn ?_
       refine ws_condTN WordsMay_n30 rfl rfl rfl ?_
       refine ws_seqN WordsMay_n32 WordsMay_n33 rfl rfl rfl ?_
       refine ws_region rfl ?_
       refine wla 0 1 rfl rfl rfl rfl rfl rfl rfl ?_
       refine wl_end rfl ?_
       refine nm_sub [(6, _)] ⟨rfl, trivial⟩ ?_
       refine nm_thn ?_
       refine ws_ret hC [_] rfl rfl ⟨rfl, trivial⟩ ?_
       exact ⟨_, rfl, (S4.pick [] [] (by decide) trivial), (by show Value.int _ _ = _; unfold mayI; first | rw [if_pos (by omega)] | rw [if_neg (by omega), if_pos (by rw [List.any_eq_true]; exact ⟨ga (p ++ q) k, ga_mem (xs := p ++ q) (i := k) (by omega), by unfold wrongB; rw [decide_eq_true_iff]; omega⟩)])⟩
      ·have hg39 := of_decide_eq_false hg39
       refine wl_opG (k := 15) (k' := 16) rfl rfl ⟨_, _, _, rfl, rfl, rfl, rfl⟩ rfl (wo_run rfl rfl (run_move rfl rfl) ?_)
       refine wl_opG (k := 16) (k' := 17) rfl rfl ⟨_, _, _, rfl, rfl, rfl, rfl⟩ rfl (wo_run rfl rfl (run_move rfl rfl) ?_)
       refine wl_opG (k := 17) (k' := 18) rfl rfl ⟨_, _, _, rfl, rfl, rfl, rfl⟩ rfl (wo_run rfl rfl (run_indexR (C := cdInt) (i := 0) k rfl rfl rfl sl36 S4 rfl (by first | rfl | omega) (by first | omega | (simp only [lens]; omega))) ?_)
       refine wl_opG (k := 18) (k' := 19) rfl rfl ⟨_, _, _, rfl, rfl, rfl, rfl⟩ rfl (wo_run rfl rfl (run_load1 rfl rfl Try.underlying3 rfl (S4.rowc (i := 0) (e := k) (j := 0) rfl (by first | omega | (simp only [lens]; omega)) rfl rfl)) ?_)
       refine wl_opG (k := 19) (k' := 20) rfl rfl ⟨_, _, _, rfl, rfl, rfl, rfl⟩ rfl (wo_run rfl rfl (run_move rfl rfl) ?_)
       refine wl_opG (k := 20) (k' := 21) rfl rfl ⟨_, _, _, rfl, rfl, rfl, rfl⟩ rfl (wo_run rfl rfl (run_geq rfl rfl rfl) ?_)
       refine wlo 21 22 rfl rfl rfl (wo_run rfl rfl (run_pickF rfl rfl rfl) ?_)
       refine wl_end rfl ?_
       refine nm_sub [(0, _), (1, _), (2, _), (7, _), (8, _), (46, _)] ⟨rfl, rfl, rfl, rfl, rfl, rfl, trivial⟩ ?_
       refine nm_thn ?_
       refine ws_condN WordsMay_n30 WordsMay_n31 rfl rfl rfl rfl (fun hb46 => ?_) (fun hb46 => ?_)
       ·have hb46 := of_decide_eq_true hb46
        refine ws_seqN WordsMay_n32 WordsMay_n33 rfl rfl rfl ?_
        refine ws_region rfl ?_
        refine wla 0 1 rfl rfl rfl rfl rfl rfl rfl ?_
        refine wl_end rfl ?_
        refine nm_sub [(6, _)] ⟨rfl, trivial⟩ ?_
        refine nm_thn ?_
        refine ws_ret hC [_] rfl rfl ⟨rfl, trivial⟩ ?_
        exact ⟨_, rfl, (S4.pick [] [] (by decide) trivial), (by show Value.int _ _ = _; unfold mayI; first | rw [if_pos (by omega)] | rw [if_neg (by omega), if_pos (by rw [List.any_eq_true]; exact ⟨ga (p ++ q) k, ga_mem (xs := p ++ q) (i := k) (by omega), by unfold wrongB; rw [decide_eq_true_iff]; omega⟩)])⟩
       ·have hb46 := of_decide_eq_false hb46
        refine ws_skip rfl ?_
        refine nm_blk ?_
        refine nm_sub [(0, _), (1, _), (2, _), (7, _), (8, _)] ⟨rfl, rfl, rfl, rfl, rfl, trivial⟩ ?_
        refine nm_thn ?_
        refine ws_region rfl ?_
        refine wlm 0 1 rfl rfl rfl rfl rfl rfl rfl ?_
        refine wlo 1 2 rfl rfl rfl (wo_run rfl rfl (run_add rfl rfl rfl (by first | omega | (simp only [lens]; omega))) ?_)
        refine wla 2 3 rfl rfl rfl rfl rfl rfl rfl ?_
        refine wl_end rfl ?_
        refine nm_lp ?_
        intro ax_ hax_
        refine ⟨_, ?hq2m, ⟨k + 1, _, _, rfl, hax_.sub ⟨rfl, rfl, rfl, rfl, rfl, trivial⟩, S4.pick [0] [_] (by decide) ⟨rfl, trivial⟩, ?hq2f0, ?hq2f1, ?hq2f2⟩⟩
        case hq2f0 => omega
        case hq2f1 => rfl
        case hq2f2 => (intro j hj; by_cases h : j = k; (subst h; unfold wrongB; rw [decide_eq_false_iff_not]; omega); exact hno j (by omega))
        case hq2m => omega
    ·have hb22 := of_decide_eq_false hb22
     refine ws_exit rfl rfl ?_
     refine nm_sub [(1, _), (2, _)] ⟨rfl, rfl, trivial⟩ ?_
     refine nm_thn ?_
     refine ws_seqN WordsMay_n34 WordsMay_n35 rfl rfl rfl ?_
     refine ws_seqN WordsMay_n36 WordsMay_n37 rfl rfl rfl ?_
     refine ws_region rfl ?_
     refine wlm 0 1 rfl rfl rfl rfl rfl rfl rfl ?_
     refine wlo 1 2 rfl rfl rfl (wo_run rfl rfl (run_len rfl rfl rfl rfl rfl rfl Try.underlying36) ?_)
     refine wlo 2 3 rfl rfl rfl (wo_run rfl rfl (run_gtr rfl rfl rfl) ?_)
     refine wlm 3 4 rfl rfl rfl rfl rfl rfl rfl ?_
     refine wl_split (t := 50) rfl (fun hg50 => ?_) (fun hg50 => ?_)
     ·have hg50 := of_decide_eq_true hg50
      refine wl_no (k := 4) (k' := 5) (d := 51) rfl rfl ⟨_, _, _, rfl, rfl, rfl, rfl⟩ rfl rfl ?_
      refine wl_no (k := 5) (k' := 6) (d := 52) rfl rfl ⟨_, _, _, rfl, rfl, rfl, rfl⟩ rfl rfl ?_
      refine wl_no (k := 6) (k' := 7) (d := 53) rfl rfl ⟨_, _, _, rfl, rfl, rfl, rfl⟩ rfl rfl ?_
      refine wlo 7 8 rfl rfl rfl (wo_run rfl rfl (run_pickT rfl rfl rfl) ?_)
      refine wl_end rfl ?_
      refine nm_sub [(54, _)] ⟨rfl, trivial⟩ ?_
      refine nm_thn ?_
      refine ws_condTN WordsMay_n38 rfl rfl rfl ?_
      refine ws_seqN WordsMay_n40 WordsMay_n41 rfl rfl rfl ?_
      refine ws_region rfl ?_
      refine wla 0 1 rfl rfl rfl rfl rfl rfl rfl ?_
      refine wl_end rfl ?_
      refine nm_sub [(6, _)] ⟨rfl, trivial⟩ ?_
      refine nm_thn ?_
      refine ws_ret hC [_] rfl rfl ⟨rfl, trivial⟩ ?_
      exact ⟨_, rfl, (S4.pick [] [] (by decide) trivial), (by show Value.int _ _ = _; unfold mayI; rw [if_neg (by omega), if_neg (by rw [anyF (fun j hj => hno j (by omega))]; exact Bool.false_ne_true), if_pos (by omega)])⟩
     ·have hg50 := of_decide_eq_false hg50
      refine wl_opG (k := 4) (k' := 5) rfl rfl ⟨_, _, _, rfl, rfl, rfl, rfl⟩ rfl (wo_run rfl rfl (run_move rfl rfl) ?_)
      refine wl_opG (k := 5) (k' := 6) rfl rfl ⟨_, _, _, rfl, rfl, rfl, rfl⟩ rfl (wo_run rfl rfl (run_len rfl rfl rfl rfl rfl rfl Try.underlying36) ?_)
      refine wl_opG (k := 6) (k' := 7) rfl rfl ⟨_, _, _, rfl, rfl, rfl, rfl⟩ rfl (wo_run rfl rfl (run_gtr rfl rfl rfl) ?_)
      refine wlo 7 8 rfl rfl rfl (wo_run rfl rfl (run_pickF rfl rfl rfl) ?_)
      refine wl_end rfl ?_
      refine nm_sub [(54, _)] ⟨rfl, trivial⟩ ?_
      refine nm_thn ?_
      refine ws_condN WordsMay_n38 WordsMay_n39 rfl rfl rfl rfl (fun hb54 => ?_) (fun hb54 => ?_)
      ·have hb54 := of_decide_eq_true hb54
       refine ws_seqN WordsMay_n40 WordsMay_n41 rfl rfl rfl ?_
       refine ws_region rfl ?_
       refine wla 0 1 rfl rfl rfl rfl rfl rfl rfl ?_
       refine wl_end rfl ?_
       refine nm_sub [(6, _)] ⟨rfl, trivial⟩ ?_
       refine nm_thn ?_
       refine ws_ret hC [_] rfl rfl ⟨rfl, trivial⟩ ?_
       exact ⟨_, rfl, (S4.pick [] [] (by decide) trivial), (by show Value.int _ _ = _; unfold mayI; rw [if_neg (by omega), if_neg (by rw [anyF (fun j hj => hno j (by omega))]; exact Bool.false_ne_true), if_pos (by omega)])⟩
      ·have hb54 := of_decide_eq_false hb54
       refine ws_skip rfl ?_
       refine nm_sub [] trivial ?_
       refine nm_thn ?_
       refine ws_seqN WordsMay_n42 WordsMay_n43 rfl rfl rfl ?_
       refine ws_region rfl ?_
       refine wla 0 1 rfl rfl rfl rfl rfl rfl rfl ?_
       refine wl_end rfl ?_
       refine nm_thn ?_
       refine ws_ret hC [_] rfl rfl ⟨rfl, trivial⟩ ?_
       exact ⟨_, rfl, (S4.pick [] [] (by decide) trivial), (by show Value.int _ _ = _; unfold mayI; rw [if_neg (by omega), if_neg (by rw [anyF (fun j hj => hno j (by omega))]; exact Bool.false_ne_true), if_neg (by omega)])⟩
noncomputable def ints_n0 : Code := Try.f26.body.getD .skip
noncomputable def ints_n1 : Code := cL ints_n0
noncomputable def ints_n2 : Code := cR ints_n0
noncomputable def ints_n3 : Code := cL ints_n2
noncomputable def ints_n4 : Code := cR ints_n2
set_option maxRecDepth 10000 in
theorem ints_t {w : World} {M : Hp} {X : Fr} (p : List Int) {pA : Option Addr} {pc : Nat} (hp : RdA cdInt (M.un X.h) pA pc p) (S : SH w M X []) : Ct Try.prog 26 [.slice pA p.length pc] w M X (IsE p) := by
 unfold Ct
 have rmhp : p.length * 8 ≤ 140737488355328 := hp.room
 refine calls_in (b := ints_n0) Try.func26 rfl Try.ntmps26 rfl (fun C hC => ?_)
 refine ws_sub [(0, _)] ⟨rfl, trivial⟩ ?_
 refine ws_seqN ints_n1 ints_n2 rfl rfl rfl ?_
 refine ws_region rfl ?_
 refine wla 0 1 rfl rfl rfl rfl rfl rfl rfl ?_
 refine wl_end rfl ?_
 refine nm_sub [(0, _)] ⟨rfl, trivial⟩ ?_
 refine nm_thn ?_
 refine ws_seqN ints_n3 ints_n4 rfl rfl rfl ?_
 refine ws_region rfl ?_
 refine wlm 0 1 rfl rfl rfl rfl rfl rfl rfl ?_
 have S1 := S.nilrow cdInt; clear S
 refine wlo 1 2 rfl rfl rfl (wo_appendM (C := cdInt) (i := 0) rfl rfl rfl rfl rfl rfl rfl rfl sl36 S1 rfl hp S1.um (by have h : _ * 8 ≤ _ := hp.room; show (0 + _) * 8 ≤ _; first | omega | (simp only [lens]; omega)) ?_)
 intro vr2 w1 S2; clear S1
 change SH _ _ _ [Rs.row cdInt vr2 p] at S2
 refine wla 2 3 rfl rfl rfl rfl rfl rfl rfl ?_
 refine wl_end rfl ?_
 refine nm_sub [(2, _)] ⟨rfl, trivial⟩ ?_
 refine nm_thn ?_
 obtain ⟨M1, hle1, S3, ⟨A1, c1, e1, hr1⟩⟩ := S2.pubrow (i := 0) (H' := [_]) rfl rfl (by show _ * 8 ≤ _; first | omega | (simp only [lens]; omega))
 clear S2; subst e1
 replace hp := hp.mono (Hp.un_mono hle1 S3.mx)
 refine ws_ret hC [_] rfl rfl ⟨rfl, trivial⟩ ?_
 refine ⟨_, rfl, _, hle1, (S3.pick [] [] (by decide) trivial), ?_⟩
 exact ⟨_, _, rfl, hr1⟩
end Go.Proofs.Ytkcighnochjlgaa
