/- Part 9 of the proof of the law AlexTells: the walks through its functions and the plain laws that they need. -/
import Derived.Test.YtkcighnochjlgaaAtZ8
import Derived.Lib.AppendZeros
set_option linter.unusedSimpArgs false
set_option linter.unusedVariables false
namespace Go.Proofs.Ytkcighnochjlgaa
open Go.ChangeShapes Go.WideShapes Go.ChangeAt Go.RowKit
theorem inc_ext : ∀ {a b : List Int}, a.Pairwise (fun s t => s < t) → b.Pairwise (fun s t => s < t) → (∀ t, t ∈ a ↔ t ∈ b) → a = b
 | [], [], _, _, _ => rfl
 | [], t :: b, _, _, h => by have := (h t).2 (by simp); simp at this
 | t :: a, [], _, _, h => by have := (h t).1 (by simp); simp at this
 | s :: a, t :: b, ha, hb, h => by
  obtain ⟨a1, a2⟩ := List.pairwise_cons.1 ha
  obtain ⟨b1, b2⟩ := List.pairwise_cons.1 hb
  have hst : s = t := by
   rcases List.mem_cons.1 ((h s).1 (by simp)) with e | h1
   ·exact e
   ·rcases List.mem_cons.1 ((h t).2 (by simp)) with e | h2
    ·exact e.symm
    ·have := a1 t h2; have := b1 s h1; omega
  subst hst
  refine congrArg _ (inc_ext a2 b2 fun u => ⟨fun hu => ?_, fun hu => ?_⟩)
  ·rcases List.mem_cons.1 ((h u).1 (by simp [hu])) with e | h1
   ·subst e; have := a1 u hu; omega
   ·exact h1
  ·rcases List.mem_cons.1 ((h u).2 (by simp [hu])) with e | h1
   ·subst e; have := b1 u hu; omega
   ·exact h1
theorem srt_eq {a b : List Int} (h : a.Perm b) (hn : b.Nodup) : srt a = srt b := inc_ext (srt_inc (h.nodup_iff.2 hn)) (srt_inc hn) fun t => by rw [srt_mem, srt_mem, h.mem_iff]
theorem Ents.at_ {es dn l1 l2 : List (Int × Int)} {B : Nat} (h : Ents es B) {k v : Int} {lf : List (Int × Int)} (hp : (dn ++ lf).Perm es) (hl : lf = l1 ++ (k, v) :: l2) : (-(B : Int) ≤ k ∧ k ≤ B) ∧ wr v = v := h.2 (k, v) (hp.mem_iff.1 (by rw [hl]; simp))
theorem mk_snoc (dn : List (Int × Int)) (k v : Int) : mk (dn ++ [(k, v)]) = mk dn + mono k v := by
 rw [mk_append]
 show _ + (mono k v + Pol.o) = _
 rw [Pol.add_zero]
theorem plus_step {es dn ws : List (Int × Int)} {k v : Int} (h : mk es = mk ws + mk dn) : mk (mp k (wr ((mg k es).getD 0 + v)) es) = mk ws + mk (dn ++ [(k, v)]) := by
 rw [mk_mp_add, h, mk_snoc, Pol.add_assoc]
theorem times_step {es dn : List (Int × Int)} {p : Pol} {e c k v : Int} (h : mk es = p + mono e c * mk dn) : mk (mp (e + k) (wr ((mg (e + k) es).getD 0 + wr (c * v))) es) = p + mono e c * mk (dn ++ [(k, v)]) := by
 rw [mk_mp_add, h, mk_snoc, Pol.mul_add, mono_mul, Pol.add_assoc]
 exact congrArg _ (congrArg _ (mono_congr rfl (md_wr _)))
theorem shift_step {es dn lf l1 l2 ws : List (Int × Int)} {e c k v : Int} (hw : (ws.map Prod.fst).Nodup) (hp : (dn ++ lf).Perm ws) (hl : lf = l1 ++ (k, v) :: l2) (hk : es.map Prod.fst = dn.map fun q => q.1 + e) (h : mk es = mk dn * mono e c) :
  mk (mp (k + e) (wr (v * c)) es) = mk (dn ++ [(k, v)]) * mono e c ∧ (mp (k + e) (wr (v * c)) es).map Prod.fst = (dn ++ [(k, v)]).map fun q => q.1 + e := by
 have hn : k + e ∉ es.map Prod.fst := by
  rw [hk]
  intro hm
  obtain ⟨q, hq, e1⟩ := List.mem_map.1 hm
  have h1 : ((dn ++ lf).map Prod.fst).Nodup := (hp.map Prod.fst).nodup_iff.2 hw
  rw [List.map_append] at h1
  have h2 := (List.nodup_append.1 h1).2.2 q.1 (List.mem_map.2 ⟨q, hq, rfl⟩) k (List.mem_map.2 ⟨(k, v), by rw [hl]; simp, rfl⟩)
  exact h2 (by omega)
 constructor
 ·rw [mk_mp, mg_none hn, h, mk_snoc, Pol.add_mul, mono_mul]
  exact congrArg _ (mono_congr rfl (by rw [Int.sub_zero]; exact md_wr _))
 ·rw [mp_keys, if_neg hn, hk, List.map_append]; rfl
theorem of_step {es : List (Int × Int)} {a : List Tm} {i : Nat} (hi : i < a.length) (h : mk es = mk (pr (a.take i))) : mk (mp (ga a i).e (wr ((mg (ga a i).e es).getD 0 + (ga a i).c)) es) = mk (pr (a.take (i + 1))) := by
 rw [mk_mp_add, h, mk_take hi]
noncomputable def Collect_n0 : Code := Try.f142.body.getD .skip
noncomputable def Collect_n1 : Code := cL Collect_n0
noncomputable def Collect_n2 : Code := cR Collect_n0
noncomputable def Collect_n3 : Code := cL Collect_n2
noncomputable def Collect_n4 : Code := cR Collect_n2
set_option maxRecDepth 10000 in
theorem Collect_o {w : World} {M : Hp} {X : Fr} {es : List (Int × Int)} {gm b : Nat} (hm : MpOk (Value.int .i64) (Value.int .i64) gm es M) (hbx : BxM M b 87 [.map (some gm)]) (hks : (es.map Prod.fst).length ≤ 2199023255553) (S : SH w M X []) : Co Try.prog 142 [.func (.func 144) #[] [.pointer (some ⟨b, 0, none⟩)].toArray] w M X (fun u N => ∃ ks, ks.Perm (es.map Prod.fst) ∧ N = [Rs.row cdInt u ks]) := by
 unfold Co
 refine calls_in (b := Collect_n0) Try.func142 rfl Try.ntmps142 rfl (fun C hC => ?_)
 refine ws_sub [(0, _)] ⟨rfl, trivial⟩ ?_
 refine ws_seqN Collect_n1 Collect_n2 rfl rfl rfl ?_
 refine ws_region rfl ?_
 refine wla 0 1 rfl rfl rfl rfl rfl rfl rfl ?_
 refine wl_end rfl ?_
 refine nm_sub [(0, _)] ⟨rfl, trivial⟩ ?_
 refine nm_thn ?_
 refine ws_seqN Collect_n3 Collect_n4 rfl rfl rfl ?_
 refine ws_region rfl ?_
 refine wlm 0 1 rfl rfl rfl rfl rfl rfl rfl ?_
 refine wlo 1 2 rfl rfl rfl (wo_co rfl rfl rfl rfl rfl rfl rfl cf160 S (InF.AppendSeq_o hm hbx hks S.lend) ?_)
 intro vw1 w1 Nw1 S1 hRw1; clear S
 obtain ⟨ksw1, hksw1, rfl⟩ := hRw1
 change SH _ _ _ [_] at S1
 refine wla 2 3 rfl rfl rfl rfl rfl rfl rfl ?_
 refine wl_end rfl ?_
 refine nm_sub [(2, _)] ⟨rfl, trivial⟩ ?_
 refine nm_thn ?_
 refine ws_ret hC [_] rfl rfl ⟨rfl, trivial⟩ ?_
 exact ⟨_, rfl, _, S1.pick [0] [_] (by decide) ⟨rfl, trivial⟩, _, hksw1, rfl⟩
noncomputable def Sorted_n0 : Code := Try.f105.body.getD .skip
noncomputable def Sorted_n1 : Code := cL Sorted_n0
noncomputable def Sorted_n2 : Code := cR Sorted_n0
noncomputable def Sorted_n3 : Code := cL Sorted_n2
noncomputable def Sorted_n4 : Code := cR Sorted_n2
noncomputable def Sorted_n5 : Code := cL Sorted_n4
noncomputable def Sorted_n6 : Code := cR Sorted_n4
noncomputable def Sorted_n7 : Code := cL Sorted_n6
noncomputable def Sorted_n8 : Code := cR Sorted_n6
set_option maxRecDepth 10000 in
theorem Sorted_o {w : World} {M : Hp} {X : Fr} {es : List (Int × Int)} {gm b : Nat} (hm : MpOk (Value.int .i64) (Value.int .i64) gm es M) (hbx : BxM M b 87 [.map (some gm)]) (hks : (es.map Prod.fst).length ≤ 2199023255553) (hn : (es.map Prod.fst).Nodup) (S : SH w M X []) : Co Try.prog 105 [.func (.func 144) #[] [.pointer (some ⟨b, 0, none⟩)].toArray] w M X (fun u N => N = [Rs.row cdInt u (srt (es.map Prod.fst))]) := by
 unfold Co
 refine calls_in (b := Sorted_n0) Try.func105 rfl Try.ntmps105 rfl (fun C hC => ?_)
 refine ws_sub [(0, _)] ⟨rfl, trivial⟩ ?_
 refine ws_seqN Sorted_n1 Sorted_n2 rfl rfl rfl ?_
 refine ws_region rfl ?_
 refine wla 0 1 rfl rfl rfl rfl rfl rfl rfl ?_
 refine wl_end rfl ?_
 refine nm_sub [(0, _)] ⟨rfl, trivial⟩ ?_
 refine nm_thn ?_
 refine ws_seqN Sorted_n3 Sorted_n4 rfl rfl rfl ?_
 refine ws_region rfl ?_
 refine wlm 0 1 rfl rfl rfl rfl rfl rfl rfl ?_
 refine wlo 1 2 rfl rfl rfl (wo_co rfl rfl rfl rfl rfl rfl rfl cf142 S (Collect_o hm hbx hks S.lend) ?_)
 intro vw1 w1 Nw1 S1 hRw1; clear S
 obtain ⟨ksw1, hksw1, rfl⟩ := hRw1
 change SH _ _ _ [_] at S1
 refine wla 2 3 rfl rfl rfl rfl rfl rfl rfl ?_
 refine wl_end rfl ?_
 refine nm_sub [(3, _)] ⟨rfl, trivial⟩ ?_
 refine nm_thn ?_
 refine ws_seqN Sorted_n5 Sorted_n6 rfl rfl rfl ?_
 refine ws_region rfl ?_
 refine wlm 0 1 rfl rfl rfl rfl rfl rfl rfl ?_
 refine wlo 1 2 rfl rfl rfl (wo_c1 rfl rfl rfl rfl rfl rfl rfl cf143 S1 (i := 0) rfl (sort_w (by have := hksw1.length_eq; omega) (S1.lend1 (i := 0) rfl)) ?_)
 rintro vw2 w2 _ _ - S2 ⟨rfl, rfl, rfl⟩; clear S1
 change SH _ _ _ [_] at S2
 refine wl_end rfl ?_
 refine nm_sub [(3, _)] ⟨rfl, trivial⟩ ?_
 refine nm_thn ?_
 refine ws_seqN Sorted_n7 Sorted_n8 rfl rfl rfl ?_
 refine ws_region rfl ?_
 refine wlm 0 1 rfl rfl rfl rfl rfl rfl rfl ?_
 refine wla 1 2 rfl rfl rfl rfl rfl rfl rfl ?_
 refine wl_end rfl ?_
 refine nm_sub [(2, _)] ⟨rfl, trivial⟩ ?_
 refine nm_thn ?_
 refine ws_ret hC [_] rfl rfl ⟨rfl, trivial⟩ ?_
 exact ⟨_, rfl, _, S2.pick [0] [_] (by decide) ⟨rfl, trivial⟩, by rw [srt_eq hksw1 hn]; rfl⟩
noncomputable def Form_n0 : Code := Try.f65.body.getD .skip
noncomputable def Form_n1 : Code := cL Form_n0
noncomputable def Form_n2 : Code := cR Form_n0
noncomputable def Form_n3 : Code := cL Form_n2
noncomputable def Form_n4 : Code := cR Form_n2
noncomputable def Form_n5 : Code := cL Form_n4
noncomputable def Form_n6 : Code := cR Form_n4
noncomputable def Form_n7 : Code := cL Form_n5
noncomputable def Form_n8 : Code := cR Form_n5
noncomputable def Form_n9 : Code := cL Form_n8
noncomputable def Form_n10 : Code := cL Form_n9
noncomputable def Form_n11 : Code := cL Form_n10
noncomputable def Form_n12 : Code := cR Form_n10
noncomputable def Form_n13 : Code := cL Form_n12
noncomputable def Form_n14 : Code := cR Form_n12
noncomputable def Form_n15 : Code := cL Form_n13
noncomputable def Form_n16 : Code := cR Form_n13
noncomputable def Form_n17 : Code := cL Form_n14
noncomputable def Form_n18 : Code := cR Form_n14
noncomputable def Form_n19 : Code := cL Form_n17
noncomputable def Form_n20 : Code := cL Form_n19
noncomputable def Form_n21 : Code := cR Form_n19
noncomputable def Form_n22 : Code := cL Form_n21
noncomputable def Form_n23 : Code := cR Form_n21
noncomputable def Form_n24 : Code := cL Form_n23
noncomputable def Form_n25 : Code := cR Form_n23
noncomputable def Form_n26 : Code := cL Form_n6
noncomputable def Form_n27 : Code := cR Form_n6
set_option maxRecDepth 10000 in
theorem Form_t {w : World} {M : Hp} {X : Fr} (es : List (Int × Int)) {ges : Nat} (hmes : MpOk (Value.int .i64) (Value.int .i64) ges es M) (B : Nat) (hes : Ents es B) (hB : B ≤ 1099511627776) (S : SH w M X []) : Ct Try.prog 65 [.map (some ges)] w M X (LsE (formL es)) := by
 unfold Ct
 have hks : (es.map Prod.fst).length ≤ 2199023255553 := by have := ents_len hes; rw [List.length_map]; omega
 refine calls_in (b := Form_n0) Try.func65 rfl Try.ntmps65 rfl (fun C hC => ?_)
 refine ws_sub [(0, _)] ⟨rfl, trivial⟩ ?_
 refine ws_seqN Form_n1 Form_n2 rfl rfl rfl ?_
 refine ws_region rfl ?_
 refine wla 0 1 rfl rfl rfl rfl rfl rfl rfl ?_
 refine wl_end rfl ?_
 refine nm_sub [(0, _)] ⟨rfl, trivial⟩ ?_
 refine nm_thn ?_
 refine ws_seqN Form_n3 Form_n4 rfl rfl rfl ?_
 refine ws_region rfl ?_
 refine wla 0 1 rfl rfl rfl rfl rfl rfl rfl ?_
 refine wl_end rfl ?_
 refine nm_thn ?_
 refine ws_seqN Form_n5 Form_n6 rfl rfl rfl ?_
 refine ws_seqN Form_n7 Form_n8 rfl rfl rfl ?_
 refine ws_region rfl ?_
 refine wlm 0 1 rfl rfl rfl rfl rfl rfl rfl ?_
 refine wlo 1 2 rfl rfl rfl (wo_ct rfl rfl rfl rfl rfl rfl rfl cf106 S (Keys_t es hmes S.lend) ?_)
 intro vw1 w1 M1 hle1 S1 hRw1; clear S
 replace hmes := hmes.mono hle1
 obtain ⟨bk1, rfl, hbx1⟩ := hRw1
 refine wlo 2 3 rfl rfl rfl (wo_co rfl rfl rfl rfl rfl rfl rfl cf105 S1 (Sorted_o hmes hbx1 hks hes.1 S1.lend) ?_)
 intro vw2 w2 Nw2 S2 hRw2; clear S1
 obtain rfl := hRw2
 change SH _ _ _ [_] at S2
 refine wlo 3 4 rfl rfl rfl (wo_run rfl rfl (run_lenR (C := cdInt) (i := 0) rfl rfl rfl rfl rfl rfl sl36 S2 rfl) ?_)
 refine wlm 4 5 rfl rfl rfl rfl rfl rfl rfl ?_
 refine wl_end rfl ?_
 refine nm_sub [(0, _), (3, _), (8, _), (9, _), (10, _)] ⟨rfl, rfl, rfl, rfl, rfl, trivial⟩ ?_
 refine nm_thn ?_
 refine ws_blockN Form_n9 0 rfl rfl rfl ?_
 have S3 := S2.nilrow cdTm; clear S2
 refine ws_loopE (fun mx_ ax_ wx_ => ∃ (i : Nat) (acc : List Tm) (vro : Value), mx_ = (srt (es.map Prod.fst)).length - i ∧ Env 28 [(0, .map (some ges)), (3, vro), (8, vw2), (9, .int .i64 ((srt (es.map Prod.fst)).length : Int)), (10, .int .i64 (i : Int))] ax_ ∧ SH wx_ M1 X [Rs.row cdTm vro acc, Rs.row cdInt vw2 (srt (es.map Prod.fst))] ∧ i ≤ (srt (es.map Prod.fst)).length ∧ acc = fm es ((srt (es.map Prod.fst)).take i)) rfl ?_ ?_
 ·intro ax_ hax_
  refine ⟨_, ⟨0, _, _, rfl, hax_.sub ⟨rfl, rfl, rfl, rfl, rfl, trivial⟩, S3.pick [0, 1] [_, _] (by decide) ⟨rfl, rfl, trivial⟩, ?hq1f0, ?hq1f1⟩⟩
  case hq1f0 => omega
  case hq1f1 => rfl
 ·rintro m1 a1 w3 ⟨i, acc, vro, rfl, he1, S4, hi, hac⟩
  clear S3
  refine ws_in he1 (c := Form_n10) rfl ?_
  clear he1 a1
  have hal : acc.length ≤ i := by rw [hac]; exact Nat.le_trans (fm_len _ _) (by rw [List.length_take]; omega)
  have hsl := srt_len (es.map Prod.fst)
  refine ws_seqN Form_n11 Form_n12 rfl rfl rfl ?_
  refine ws_region rfl ?_
  refine wlo 0 1 rfl rfl rfl (wo_run rfl rfl (run_lss rfl rfl rfl) ?_)
  refine wl_end rfl ?_
  refine nm_thn ?_
  refine ws_seqN Form_n13 Form_n14 rfl rfl rfl ?_
  refine ws_condN Form_n15 Form_n16 rfl rfl rfl rfl (fun hb11 => ?_) (fun hb11 => ?_)
  ·have hb11 := of_decide_eq_true hb11
   refine ws_skip rfl ?_
   refine nm_sub [(0, _), (3, _), (8, _), (9, _), (10, _)] ⟨rfl, rfl, rfl, rfl, rfl, trivial⟩ ?_
   refine nm_thn ?_
   refine ws_seqN Form_n17 Form_n18 rfl rfl rfl ?_
   refine ws_blockN Form_n19 1 rfl rfl rfl ?_
   refine ws_seqN Form_n20 Form_n21 rfl rfl rfl ?_
   refine ws_region rfl ?_
   refine wlo 0 1 rfl rfl rfl (wo_run rfl rfl (run_indexR (C := cdInt) (i := 1) i rfl rfl rfl sl36 S4 rfl (by first | rfl | omega) (by first | omega | (simp only [lens]; omega))) ?_)
   refine wlo 1 2 rfl rfl rfl (wo_run rfl rfl (run_load1 rfl rfl Try.underlying3 rfl (S4.rowc (i := 1) (e := i) (j := 0) rfl (by first | omega | (simp only [lens]; omega)) rfl rfl)) ?_)
   refine wla 2 3 rfl rfl rfl rfl rfl rfl rfl ?_
   refine wl_end rfl ?_
   refine nm_sub [(0, _), (3, _), (8, _), (9, _), (10, _), (5, _)] ⟨rfl, rfl, rfl, rfl, rfl, rfl, trivial⟩ ?_
   refine nm_thn ?_
   refine ws_seqN Form_n22 Form_n23 rfl rfl rfl ?_
   refine ws_region rfl ?_
   refine wlm 0 1 rfl rfl rfl rfl rfl rfl rfl ?_
   refine wlm 1 2 rfl rfl rfl rfl rfl rfl rfl ?_
   refine wlo 2 3 rfl rfl rfl (wo_run rfl rfl (run_lookupM (kc := (Value.int .i64)) (vc := (Value.int .i64)) (es := es) (k := (ga (srt (es.map Prod.fst)) i)) (zv := 0) rfl rfl rfl Try.underlying87 mk3 zr3 hmes S4.m) ?_)
   refine wlo 3 4 rfl rfl rfl (wo_run rfl rfl (run_neq rfl rfl rfl) ?_)
   refine wl_end rfl ?_
   refine nm_sub [(0, _), (3, _), (8, _), (9, _), (10, _), (5, _), (17, _)] ⟨rfl, rfl, rfl, rfl, rfl, rfl, rfl, trivial⟩ ?_
   refine nm_thn ?_
   refine ws_condN Form_n24 Form_n25 rfl rfl rfl rfl (fun hb17 => ?_) (fun hb17 => ?_)
   ·have hb17 := of_decide_eq_true hb17
    refine ws_region rfl ?_
    refine wlm 0 1 rfl rfl rfl rfl rfl rfl rfl ?_
    refine wlm 1 2 rfl rfl rfl rfl rfl rfl rfl ?_
    refine wlm 2 3 rfl rfl rfl rfl rfl rfl rfl ?_
    refine wlm 3 4 rfl rfl rfl rfl rfl rfl rfl ?_
    refine wlo 4 5 rfl rfl rfl (wo_run rfl rfl (run_lookupM (kc := (Value.int .i64)) (vc := (Value.int .i64)) (es := es) (k := (ga (srt (es.map Prod.fst)) i)) (zv := 0) rfl rfl rfl Try.underlying87 mk3 zr3 hmes S4.m) ?_)
    refine wlo 5 6 rfl rfl rfl (wo_run rfl rfl (run_build (l := [_, _]) rfl rfl st89 rfl rfl) ?_)
    refine wlo 6 7 rfl rfl rfl (wo_buildSlice1 (C := cdTm) (l := [_, _]) rfl rfl rfl rfl sl22 rfl rfl rfl rfl S4 ?_)
    intro gb1 w4 S5; clear S4
    refine wlo 7 8 rfl rfl rfl (wo_append1 (C := cdTm) (i := 1) (q := 0) (⟨ga (srt (es.map Prod.fst)) i, (mg (ga (srt (es.map Prod.fst)) i) es).getD 0⟩ : Tm) rfl rfl rfl rfl rfl rfl rfl rfl sl22 S5 rfl rfl rfl (by show (_ + 1) * 16 ≤ _; omega) ?_)
    intro vro1 w5 S6; clear S5
    have S7 := S6.pick [1, 2] [_, _] (by decide) ⟨rfl, rfl, trivial⟩; clear S6
    refine wla 8 9 rfl rfl rfl rfl rfl rfl rfl ?_
    refine wl_end rfl ?_
    refine nm_blk ?_
    refine nm_sub [(0, _), (3, _), (8, _), (9, _), (10, _)] ⟨rfl, rfl, rfl, rfl, rfl, trivial⟩ ?_
    refine nm_thn ?_
    refine ws_region rfl ?_
    refine wlo 0 1 rfl rfl rfl (wo_run rfl rfl (run_add rfl rfl rfl (by first | omega | (simp only [lens]; omega))) ?_)
    refine wlm 1 2 rfl rfl rfl rfl rfl rfl rfl ?_
    refine wl_end rfl ?_
    refine nm_lp ?_
    intro ax_ hax_
    refine ⟨_, ?hq2m, ⟨i + 1, _, _, rfl, hax_.sub ⟨rfl, rfl, rfl, rfl, rfl, trivial⟩, S7.pick [0, 1] [_, _] (by decide) ⟨rfl, rfl, trivial⟩, ?hq2f0, ?hq2f1⟩⟩
    case hq2f0 => omega
    case hq2f1 => (rw [take_ga _ i (by omega), fm_snoc, ← hac]; first | (rw [if_neg (by assumption)]) | (rw [if_pos (by omega), List.append_nil]))
    case hq2m => omega
   ·have hb17 := of_decide_eq_false hb17
    refine ws_skip rfl ?_
    refine nm_blk ?_
    refine nm_sub [(0, _), (3, _), (8, _), (9, _), (10, _)] ⟨rfl, rfl, rfl, rfl, rfl, trivial⟩ ?_
    refine nm_thn ?_
    refine ws_region rfl ?_
    refine wlo 0 1 rfl rfl rfl (wo_run rfl rfl (run_add rfl rfl rfl (by first | omega | (simp only [lens]; omega))) ?_)
    refine wlm 1 2 rfl rfl rfl rfl rfl rfl rfl ?_
    refine wl_end rfl ?_
    refine nm_lp ?_
    intro ax_ hax_
    refine ⟨_, ?hq3m, ⟨i + 1, _, _, rfl, hax_.sub ⟨rfl, rfl, rfl, rfl, rfl, trivial⟩, S4.pick [0, 1] [_, _] (by decide) ⟨rfl, rfl, trivial⟩, ?hq3f0, ?hq3f1⟩⟩
    case hq3f0 => omega
    case hq3f1 => (rw [take_ga _ i (by omega), fm_snoc, ← hac]; first | (rw [if_neg (by assumption)]) | (rw [if_pos (by omega), List.append_nil]))
    case hq3m => omega
  ·have hb11 := of_decide_eq_false hb11
   refine ws_exit rfl rfl ?_
   refine nm_sub [(3, _)] ⟨rfl, trivial⟩ ?_
   refine nm_thn ?_
   refine ws_seqN Form_n26 Form_n27 rfl rfl rfl ?_
   have hsl := srt_len (es.map Prod.fst)
   refine ws_region rfl ?_
   refine wlm 0 1 rfl rfl rfl rfl rfl rfl rfl ?_
   refine wla 1 2 rfl rfl rfl rfl rfl rfl rfl ?_
   refine wl_end rfl ?_
   refine nm_sub [(2, _)] ⟨rfl, trivial⟩ ?_
   refine nm_thn ?_
   have hal : acc.length ≤ 2199023255553 := by rw [hac]; exact Nat.le_trans (fm_len _ _) (by rw [List.length_take]; omega)
   obtain ⟨M2, hle3, S8, ⟨A1, c1, e1, hr1⟩⟩ := S4.pubrow (i := 0) (H' := [_, _]) rfl rfl (by show _ * 16 ≤ _; first | omega | (simp only [lens]; omega))
   clear S4; subst e1
   replace hmes := hmes.mono hle3
   replace hbx1 := hbx1.mono hle3
   refine ws_ret hC [_] rfl rfl ⟨rfl, trivial⟩ ?_
   refine ⟨_, rfl, _, hle1.trans hle3, (S8.pick [] [] (by decide) trivial), ?_⟩
   obtain rfl : i = (srt (es.map Prod.fst)).length := by omega
   rw [List.take_length] at hac
   have e9 : formL es = acc := hac.symm
   rw [e9]
   exact ⟨_, _, rfl, hr1⟩
noncomputable def Of_n0 : Code := Try.f75.body.getD .skip
noncomputable def Of_n1 : Code := cL Of_n0
noncomputable def Of_n2 : Code := cR Of_n0
noncomputable def Of_n3 : Code := cL Of_n2
noncomputable def Of_n4 : Code := cR Of_n2
noncomputable def Of_n5 : Code := cL Of_n4
noncomputable def Of_n6 : Code := cR Of_n4
noncomputable def Of_n7 : Code := cL Of_n5
noncomputable def Of_n8 : Code := cR Of_n5
noncomputable def Of_n9 : Code := cL Of_n8
noncomputable def Of_n10 : Code := cL Of_n9
noncomputable def Of_n11 : Code := cL Of_n10
noncomputable def Of_n12 : Code := cR Of_n10
noncomputable def Of_n13 : Code := cL Of_n12
noncomputable def Of_n14 : Code := cR Of_n12
noncomputable def Of_n15 : Code := cL Of_n13
noncomputable def Of_n16 : Code := cR Of_n13
noncomputable def Of_n17 : Code := cL Of_n14
noncomputable def Of_n18 : Code := cR Of_n14
noncomputable def Of_n19 : Code := cL Of_n17
noncomputable def Of_n20 : Code := cL Of_n19
noncomputable def Of_n21 : Code := cR Of_n19
noncomputable def Of_n22 : Code := cL Of_n6
noncomputable def Of_n23 : Code := cR Of_n6
set_option maxRecDepth 10000 in
theorem Of_t {w : World} {M : Hp} {X : Fr} (a : List Tm) {aA : Option Addr} {ac : Nat} (ha : RdA cdTm (M.un X.h) aA ac a) (B : Nat) (hba : Bd a B) (S : SH w M X []) : Ct Try.prog 75 [.slice aA a.length ac] w M X (WkR B (mk (pr a))) := by
 unfold Ct
 have rmha : a.length * 16 ≤ 140737488355328 := ha.room
 refine calls_in (b := Of_n0) Try.func75 rfl Try.ntmps75 rfl (fun C hC => ?_)
 refine ws_sub [(0, _)] ⟨rfl, trivial⟩ ?_
 refine ws_seqN Of_n1 Of_n2 rfl rfl rfl ?_
 refine ws_region rfl ?_
 refine wla 0 1 rfl rfl rfl rfl rfl rfl rfl ?_
 refine wl_end rfl ?_
 refine nm_sub [(0, _)] ⟨rfl, trivial⟩ ?_
 refine nm_thn ?_
 refine ws_seqN Of_n3 Of_n4 rfl rfl rfl ?_
 refine ws_region rfl ?_
 refine wlo 0 1 rfl rfl rfl (wo_makeMap Int Int (Value.int .i64) (Value.int .i64) rfl rfl rfl S ?_)
 intro gm1 w1 S1; clear S
 refine wla 1 2 rfl rfl rfl rfl rfl rfl rfl ?_
 refine wl_end rfl ?_
 refine nm_sub [(0, _), (3, _)] ⟨rfl, rfl, trivial⟩ ?_
 refine nm_thn ?_
 refine ws_seqN Of_n5 Of_n6 rfl rfl rfl ?_
 refine ws_seqN Of_n7 Of_n8 rfl rfl rfl ?_
 refine ws_region rfl ?_
 refine wlm 0 1 rfl rfl rfl rfl rfl rfl rfl ?_
 refine wlo 1 2 rfl rfl rfl (wo_run rfl rfl (run_len rfl rfl rfl rfl rfl rfl Try.underlying22) ?_)
 refine wlm 2 3 rfl rfl rfl rfl rfl rfl rfl ?_
 refine wl_end rfl ?_
 refine nm_sub [(3, _), (7, _), (8, _), (9, _)] ⟨rfl, rfl, rfl, rfl, trivial⟩ ?_
 refine nm_thn ?_
 refine ws_blockN Of_n9 0 rfl rfl rfl ?_
 refine ws_loopE (fun mx_ ax_ wx_ => ∃ (i : Nat) (es : List (Int × Int)), mx_ = a.length - i ∧ Env 22 [(3, .map (some gm1)), (7, .slice aA a.length ac), (8, .int .i64 (a.length : Int)), (9, .int .i64 (i : Int))] ax_ ∧ SH wx_ M X [Rs.mp (Value.int .i64) (Value.int .i64) gm1 es] ∧ i ≤ a.length ∧ Ents es B ∧ mk es = mk (pr (a.take i))) rfl ?_ ?_
 ·intro ax_ hax_
  refine ⟨_, ⟨0, [], rfl, hax_.sub ⟨rfl, rfl, rfl, rfl, trivial⟩, S1.pick [0] [_] (by decide) ⟨rfl, trivial⟩, ?hq1f0, ?hq1f1, ?hq1f2⟩⟩
  case hq1f0 => omega
  case hq1f1 => exact Ents.nil_ B
  case hq1f2 => rfl
 ·rintro m2 a1 w2 ⟨i, es, rfl, he1, S2, hi, hes, hmk⟩
  clear S1
  refine ws_in he1 (c := Of_n10) rfl ?_
  clear he1 a1
  refine ws_seqN Of_n11 Of_n12 rfl rfl rfl ?_
  refine ws_region rfl ?_
  refine wlo 0 1 rfl rfl rfl (wo_run rfl rfl (run_lss rfl rfl rfl) ?_)
  refine wl_end rfl ?_
  refine nm_thn ?_
  refine ws_seqN Of_n13 Of_n14 rfl rfl rfl ?_
  refine ws_condN Of_n15 Of_n16 rfl rfl rfl rfl (fun hb10 => ?_) (fun hb10 => ?_)
  ·have hb10 := of_decide_eq_true hb10
   refine ws_skip rfl ?_
   refine nm_sub [(3, _), (7, _), (8, _), (9, _)] ⟨rfl, rfl, rfl, rfl, trivial⟩ ?_
   refine nm_thn ?_
   refine ws_seqN Of_n17 Of_n18 rfl rfl rfl ?_
   refine ws_blockN Of_n19 1 rfl rfl rfl ?_
   refine ws_seqN Of_n20 Of_n21 rfl rfl rfl ?_
   refine ws_region rfl ?_
   refine wlo 0 1 rfl rfl rfl (wo_run rfl rfl (run_indexM (C := cdTm) i rfl rfl rfl sl22 (by first | rfl | omega) ha (by first | omega | (simp only [lens]; omega))) ?_)
   refine wlo 1 2 rfl rfl rfl (wo_run rfl rfl (run_loadN (us := [_, _]) rfl rfl Try.underlying89 rfl sz89 (ha.cellsAt S2.um (e := i) (by first | omega | (simp only [lens]; omega)) (j := 0) ⟨rfl, rfl, trivial⟩)) ?_)
   refine wlo 2 3 rfl rfl rfl (wo_alloc (l := [_, _]) rfl rfl rfl zr89 rfl S2 ?_)
   intro gb1 w3 S3; clear S2
   refine wlo 3 4 rfl rfl rfl (wo_storeB (i := 0) (us := [_, _]) (l' := [_, _]) (H' := [_, _]) rfl rfl S3 rfl rfl rfl rfl sz89 rfl rfl rfl rfl ?_)
   intro w4 S4; clear S3
   refine wl_end rfl ?_
   refine nm_sub [(3, _), (7, _), (8, _), (9, _), (5, _)] ⟨rfl, rfl, rfl, rfl, rfl, trivial⟩ ?_
   refine nm_thn ?_
   refine ws_region rfl ?_
   refine wlm 0 1 rfl rfl rfl rfl rfl rfl rfl ?_
   refine wlo 1 2 rfl rfl rfl (wo_run rfl rfl (run_fieldAddr rfl rfl Try.underlying89 rfl (ce3) (nf3)) ?_)
   refine wlo 2 3 rfl rfl rfl (wo_run rfl rfl (run_load1 rfl rfl Try.underlying3 rfl (S4.boxc (i := 0) rfl rfl)) ?_)
   refine wlo 3 4 rfl rfl rfl (wo_run rfl rfl (run_lookup (kc := Value.int .i64) (vc := Value.int .i64) (es := es) (k := ((ga a i).e)) (zv := 0) (i := 1) rfl rfl rfl Try.underlying87 mk3 zr3 S4 rfl) ?_)
   refine wlo 4 5 rfl rfl rfl (wo_run rfl rfl (run_fieldAddr rfl rfl Try.underlying89 rfl (ce3) (nf3)) ?_)
   refine wlo 5 6 rfl rfl rfl (wo_run rfl rfl (run_load1 rfl rfl Try.underlying3 rfl (S4.boxc (i := 0) rfl rfl)) ?_)
   refine wlo 6 7 rfl rfl rfl (wo_run rfl rfl (run_addW rfl rfl rfl) ?_)
   refine wlo 7 8 rfl rfl rfl (wo_mapUpdate (kc := Value.int .i64) (vc := Value.int .i64) (es := es) (k := ((ga a i).e)) (e := (wr (((mg ((ga a i).e) es).getD 0) + ((ga a i).c)))) (i := 1) (H' := [_, _]) (.inl rfl) rfl S4 rfl rfl rfl rfl Try.underlying87 mk3 rfl ?_)
   intro w5 S5; clear S4
   refine wl_end rfl ?_
   refine nm_blk ?_
   refine nm_sub [(3, _), (7, _), (8, _), (9, _)] ⟨rfl, rfl, rfl, rfl, trivial⟩ ?_
   refine nm_thn ?_
   refine ws_region rfl ?_
   refine wlo 0 1 rfl rfl rfl (wo_run rfl rfl (run_add rfl rfl rfl (by first | omega | (simp only [lens]; omega))) ?_)
   refine wlm 1 2 rfl rfl rfl rfl rfl rfl rfl ?_
   refine wl_end rfl ?_
   refine nm_lp ?_
   intro ax_ hax_
   refine ⟨_, ?hq2m, ⟨i + 1, _, rfl, hax_.sub ⟨rfl, rfl, rfl, rfl, trivial⟩, S5.pick [1] [_] (by decide) ⟨rfl, trivial⟩, ?hq2f0, ?hq2f1, ?hq2f2⟩⟩
   case hq2f0 => omega
   case hq2f1 => exact mp_ents hes (bd_at hba (by omega)) (wr_idem _)
   case hq2f2 => exact of_step (by omega) hmk
   case hq2m => omega
  ·have hb10 := of_decide_eq_false hb10
   refine ws_exit rfl rfl ?_
   refine nm_sub [(3, _)] ⟨rfl, trivial⟩ ?_
   refine nm_thn ?_
   refine ws_seqN Of_n22 Of_n23 rfl rfl rfl ?_
   refine ws_region rfl ?_
   refine wlm 0 1 rfl rfl rfl rfl rfl rfl rfl ?_
   refine wla 1 2 rfl rfl rfl rfl rfl rfl rfl ?_
   refine wl_end rfl ?_
   refine nm_sub [(2, _)] ⟨rfl, trivial⟩ ?_
   refine nm_thn ?_
   obtain ⟨M1, hle2, S6, hm1⟩ := S2.pubmap (i := 0) (H' := [_]) rfl rfl; clear S2
   replace ha := ha.mono (Hp.un_mono hle2 S6.mx)
   refine ws_ret hC [_] rfl rfl ⟨rfl, trivial⟩ ?_
   refine ⟨_, rfl, _, hle2, (S6.pick [] [] (by decide) trivial), ?_⟩
   obtain rfl : i = a.length := by omega
   rw [List.take_length] at hmk
   exact ⟨_, rfl, _, hm1, hes, hmk⟩
noncomputable def Plus_n0 : Code := Try.f60.body.getD .skip
noncomputable def Plus_n1 : Code := cL Plus_n0
noncomputable def Plus_n2 : Code := cR Plus_n0
noncomputable def Plus_n3 : Code := cL Plus_n2
noncomputable def Plus_n4 : Code := cR Plus_n2
noncomputable def Plus_n5 : Code := cL Plus_n4
noncomputable def Plus_n6 : Code := cR Plus_n4
noncomputable def Plus_n7 : Code := cL Plus_n5
noncomputable def Plus_n8 : Code := cR Plus_n5
noncomputable def Plus_n9 : Code := cL Plus_n8
noncomputable def Plus_n10 : Code := cL Plus_n9
noncomputable def Plus_n11 : Code := cL Plus_n10
noncomputable def Plus_n12 : Code := cR Plus_n10
noncomputable def Plus_n13 : Code := cL Plus_n12
noncomputable def Plus_n14 : Code := cR Plus_n12
noncomputable def Plus_n15 : Code := cL Plus_n13
noncomputable def Plus_n16 : Code := cR Plus_n13
noncomputable def Plus_n17 : Code := cL Plus_n6
noncomputable def Plus_n18 : Code := cR Plus_n6
noncomputable def Plus_n19 : Code := cL Plus_n14
noncomputable def Plus_n20 : Code := cL Plus_n19
noncomputable def Plus_n21 : Code := cR Plus_n19
set_option maxRecDepth 10000 in
theorem Plus_t {w : World} {M : Hp} {X : Fr} (ws : List (Int × Int)) {gws : Nat} (vs : List (Int × Int)) {gvs : Nat} (hmws : MpOk (Value.int .i64) (Value.int .i64) gws ws M) (hmvs : MpOk (Value.int .i64) (Value.int .i64) gvs vs M) (B : Nat) (hws : Ents ws B) (hvs : Ents vs B) (S : SH w M X []) : Ct Try.prog 60 [.map (some gws), .map (some gvs)] w M X (WkR B (mk ws + mk vs)) := by
 unfold Ct
 refine calls_in (b := Plus_n0) Try.func60 rfl Try.ntmps60 rfl (fun C hC => ?_)
 refine ws_sub [(0, _), (1, _)] ⟨rfl, rfl, trivial⟩ ?_
 refine ws_seqN Plus_n1 Plus_n2 rfl rfl rfl ?_
 refine ws_region rfl ?_
 refine wla 0 1 rfl rfl rfl rfl rfl rfl rfl ?_
 refine wl_end rfl ?_
 refine nm_sub [(0, _), (1, _)] ⟨rfl, rfl, trivial⟩ ?_
 refine nm_thn ?_
 refine ws_seqN Plus_n3 Plus_n4 rfl rfl rfl ?_
 refine ws_region rfl ?_
 refine wlm 0 1 rfl rfl rfl rfl rfl rfl rfl ?_
 refine wlo 1 2 rfl rfl rfl (wo_co rfl rfl rfl rfl rfl rfl rfl cf103 S (Clone_o (hmws.mono (Hp.le_un _ _)) S.lend) ?_)
 intro vw1 w1 Nw1 S1 hRw1; clear S
 obtain ⟨gmc1, rfl, rfl⟩ := hRw1
 change SH _ _ _ [_] at S1
 refine wla 2 3 rfl rfl rfl rfl rfl rfl rfl ?_
 refine wl_end rfl ?_
 refine nm_sub [(1, _), (5, _)] ⟨rfl, rfl, trivial⟩ ?_
 refine nm_thn ?_
 refine ws_seqN Plus_n5 Plus_n6 rfl rfl rfl ?_
 refine ws_seqN Plus_n7 Plus_n8 rfl rfl rfl ?_
 refine ws_region rfl ?_
 refine wlm 0 1 rfl rfl rfl rfl rfl rfl rfl ?_
 obtain ⟨arr1, clk1, hE1⟩ := hmvs.ents
 refine wlo 1 2 rfl rfl rfl (wo_range rfl rfl rfl rfl Try.underlying87 S1 hE1 S1.m ?_)
 intro r1 w2 S2; clear S1
 refine wl_end rfl ?_
 refine nm_sub [(5, _), (11, _)] ⟨rfl, rfl, trivial⟩ ?_
 refine nm_thn ?_
 refine ws_blockN Plus_n9 0 rfl rfl rfl ?_
 refine ws_loopE (fun mx_ ax_ wx_ => ∃ (sn : Array Nat) (dn : List (Int × Int)) (lf : List (Int × Int)) (es : List (Int × Int)), mx_ = lf.length ∧ Env 23 [(5, .map (some gmc1)), (11, .pointer (some ⟨r1, 0, none⟩))] ax_ ∧ SH wx_ M X [Rs.itr gvs clk1 r1 sn, Rs.mp (Value.int .i64) (Value.int .i64) gmc1 es] ∧ Lft (Value.int .i64) (Value.int .i64) arr1 sn lf ∧ (dn ++ lf).Perm vs ∧ Ents es B ∧ mk es = mk ws + mk dn) rfl ?_ ?_
 ·intro ax_ hax_
  refine ⟨_, ⟨#[], [], vs, ws, rfl, hax_.sub ⟨rfl, rfl, trivial⟩, S2.pick [0, 1] [_, _] (by decide) ⟨rfl, rfl, trivial⟩, ?hq1f0, ?hq1f1, ?hq1f2, ?hq1f3⟩⟩
  case hq1f0 => exact hE1.lft
  case hq1f1 => exact List.Perm.refl _
  case hq1f2 => exact hws
  case hq1f3 => exact (Pol.add_zero _).symm
 ·rintro m1 a1 w3 ⟨sn, dn, lf, es, rfl, he1, S3, hlf, hpm, hes, hmk⟩
  clear S2
  refine ws_in he1 (c := Plus_n10) rfl ?_
  clear he1 a1
  refine ws_seqN Plus_n11 Plus_n12 rfl rfl rfl ?_
  refine ws_region rfl ?_
  refine wlo 0 1 rfl rfl rfl (wo_next (i := 0) rfl rfl rfl rfl S3 rfl hE1 S3.m hlf (fun hlf1 => ?_) (fun k1 v1 l1_1 l2_1 sn1 w4 hlf1 hlft1 hlst1 S4 => ?_))
  ·refine wlo 1 2 rfl rfl rfl (wo_run rfl rfl (run_extract rfl rfl rfl) ?_)
   refine wl_end rfl ?_
   refine nm_sub [(5, _), (11, _), (13, _)] ⟨rfl, rfl, rfl, trivial⟩ ?_
   refine nm_thn ?_
   refine ws_seqN Plus_n13 Plus_n14 rfl rfl rfl ?_
   refine ws_condFN Plus_n16 rfl rfl rfl ?_
   refine ws_exit rfl rfl ?_
   refine nm_sub [(5, _)] ⟨rfl, trivial⟩ ?_
   refine nm_thn ?_
   refine ws_seqN Plus_n17 Plus_n18 rfl rfl rfl ?_
   refine ws_region rfl ?_
   refine wlm 0 1 rfl rfl rfl rfl rfl rfl rfl ?_
   refine wla 1 2 rfl rfl rfl rfl rfl rfl rfl ?_
   refine wl_end rfl ?_
   refine nm_sub [(4, _)] ⟨rfl, trivial⟩ ?_
   refine nm_thn ?_
   obtain ⟨M1, hle2, S5, hm1⟩ := S3.pubmap (i := 1) (H' := [_, _]) rfl rfl; clear S3
   replace hmws := hmws.mono hle2
   replace hmvs := hmvs.mono hle2
   replace hE1 := hE1.mono hle2
   refine ws_ret hC [_] rfl rfl ⟨rfl, trivial⟩ ?_
   refine ⟨_, rfl, _, hle2, (S5.pick [] [] (by decide) trivial), ?_⟩
   obtain rfl : lf = [] := hlf1
   rw [List.append_nil] at hpm
   exact ⟨_, rfl, _, hm1, hes, by rw [hmk, mk_perm hpm]⟩
  ·clear S3
   change SH _ _ _ [Rs.itr gvs clk1 r1 sn1, _] at S4
   refine wlo 1 2 rfl rfl rfl (wo_run rfl rfl (run_extract rfl rfl rfl) ?_)
   refine wl_end rfl ?_
   refine nm_sub [(5, _), (11, _), (13, _)] ⟨rfl, rfl, rfl, trivial⟩ ?_
   refine nm_thn ?_
   refine ws_seqN Plus_n13 Plus_n14 rfl rfl rfl ?_
   refine ws_condTN Plus_n15 rfl rfl rfl ?_
   refine ws_skip rfl ?_
   refine nm_sub [(5, _), (11, _)] ⟨rfl, rfl, trivial⟩ ?_
   refine nm_thn ?_
   refine ws_blockN Plus_n19 1 rfl rfl rfl ?_
   refine ws_seqN Plus_n20 Plus_n21 rfl rfl rfl ?_
   refine ws_region rfl ?_
   refine wlo 0 1 rfl rfl rfl (wo_run rfl rfl (run_entry (i := 0) rfl rfl S4 rfl hE1 S4.m hlst1) ?_)
   refine wlo 1 2 rfl rfl rfl (wo_run rfl rfl (run_extract rfl rfl rfl) ?_)
   refine wlo 2 3 rfl rfl rfl (wo_run rfl rfl (run_extract rfl rfl rfl) ?_)
   refine wla 3 4 rfl rfl rfl rfl rfl rfl rfl ?_
   refine wla 4 5 rfl rfl rfl rfl rfl rfl rfl ?_
   refine wl_end rfl ?_
   refine nm_sub [(5, _), (11, _), (6, _), (7, _)] ⟨rfl, rfl, rfl, rfl, trivial⟩ ?_
   refine nm_thn ?_
   refine ws_region rfl ?_
   refine wlm 0 1 rfl rfl rfl rfl rfl rfl rfl ?_
   refine wlm 1 2 rfl rfl rfl rfl rfl rfl rfl ?_
   refine wlo 2 3 rfl rfl rfl (wo_run rfl rfl (run_lookup (kc := Value.int .i64) (vc := Value.int .i64) (es := es) (k := k1) (zv := 0) (i := 1) rfl rfl rfl Try.underlying87 mk3 zr3 S4 rfl) ?_)
   refine wlm 3 4 rfl rfl rfl rfl rfl rfl rfl ?_
   refine wlo 4 5 rfl rfl rfl (wo_run rfl rfl (run_addW rfl rfl rfl) ?_)
   refine wlo 5 6 rfl rfl rfl (wo_mapUpdate (kc := Value.int .i64) (vc := Value.int .i64) (es := es) (k := k1) (e := (wr (((mg k1 es).getD 0) + v1))) (i := 1) (H' := [_, _]) (.inl rfl) rfl S4 rfl rfl rfl rfl Try.underlying87 mk3 rfl ?_)
   intro w5 S6; clear S4
   refine wl_end rfl ?_
   refine nm_blk ?_
   refine nm_lp ?_
   intro ax_ hax_
   refine ⟨_, ?hq2m, ⟨sn1, dn ++ [(k1, v1)], l1_1 ++ l2_1, _, rfl, hax_.sub ⟨rfl, rfl, trivial⟩, S6.pick [0, 1] [_, _] (by decide) ⟨rfl, rfl, trivial⟩, ?hq2f0, ?hq2f1, ?hq2f2, ?hq2f3⟩⟩
   case hq2f0 => assumption
   case hq2f1 => (refine List.Perm.trans ?_ hpm; simp only [*, List.append_assoc, List.cons_append, List.nil_append]; exact (List.perm_append_left_iff _).2 (List.perm_middle.symm))
   case hq2f2 => exact mp_ents hes (hvs.at_ hpm (by assumption)).1 (wr_idem _)
   case hq2f3 => exact plus_step hmk
   case hq2m => (simp only [*, List.length_append, List.length_cons]; omega)
noncomputable def Times_n0 : Code := Try.f61.body.getD .skip
noncomputable def Times_n1 : Code := cL Times_n0
noncomputable def Times_n2 : Code := cR Times_n0
noncomputable def Times_n3 : Code := cL Times_n2
noncomputable def Times_n4 : Code := cR Times_n2
noncomputable def Times_n5 : Code := cL Times_n4
noncomputable def Times_n6 : Code := cR Times_n4
noncomputable def Times_n7 : Code := cL Times_n5
noncomputable def Times_n8 : Code := cR Times_n5
noncomputable def Times_n9 : Code := cL Times_n8
noncomputable def Times_n10 : Code := cL Times_n9
noncomputable def Times_n11 : Code := cL Times_n10
noncomputable def Times_n12 : Code := cR Times_n10
noncomputable def Times_n13 : Code := cL Times_n12
noncomputable def Times_n14 : Code := cR Times_n12
noncomputable def Times_n15 : Code := cL Times_n13
noncomputable def Times_n16 : Code := cR Times_n13
noncomputable def Times_n17 : Code := cL Times_n6
noncomputable def Times_n18 : Code := cR Times_n6
noncomputable def Times_n19 : Code := cL Times_n14
noncomputable def Times_n20 : Code := cL Times_n19
noncomputable def Times_n21 : Code := cR Times_n19
noncomputable def Times_n22 : Code := cL Times_n21
noncomputable def Times_n23 : Code := cR Times_n21
noncomputable def Times_n24 : Code := cL Times_n23
noncomputable def Times_n25 : Code := cL Times_n24
noncomputable def Times_n26 : Code := cL Times_n25
noncomputable def Times_n27 : Code := cR Times_n25
noncomputable def Times_n28 : Code := cL Times_n27
noncomputable def Times_n29 : Code := cR Times_n27
noncomputable def Times_n30 : Code := cL Times_n28
noncomputable def Times_n31 : Code := cR Times_n28
noncomputable def Times_n32 : Code := cL Times_n29
noncomputable def Times_n33 : Code := cL Times_n32
noncomputable def Times_n34 : Code := cR Times_n32
set_option maxRecDepth 10000 in
theorem Times_t {w : World} {M : Hp} {X : Fr} (ws : List (Int × Int)) {gws : Nat} (vs : List (Int × Int)) {gvs : Nat} (hmws : MpOk (Value.int .i64) (Value.int .i64) gws ws M) (hmvs : MpOk (Value.int .i64) (Value.int .i64) gvs vs M) (B B2 : Nat) (hws : Ents ws B) (hvs : Ents vs B2) (hB : B + B2 ≤ 1099511627776) (S : SH w M X []) : Ct Try.prog 61 [.map (some gws), .map (some gvs)] w M X (WkR (B + B2) (mk ws * mk vs)) := by
 unfold Ct
 refine calls_in (b := Times_n0) Try.func61 rfl Try.ntmps61 rfl (fun C hC => ?_)
 refine ws_sub [(0, _), (1, _)] ⟨rfl, rfl, trivial⟩ ?_
 refine ws_seqN Times_n1 Times_n2 rfl rfl rfl ?_
 refine ws_region rfl ?_
 refine wla 0 1 rfl rfl rfl rfl rfl rfl rfl ?_
 refine wl_end rfl ?_
 refine nm_sub [(0, _), (1, _)] ⟨rfl, rfl, trivial⟩ ?_
 refine nm_thn ?_
 refine ws_seqN Times_n3 Times_n4 rfl rfl rfl ?_
 refine ws_region rfl ?_
 refine wlo 0 1 rfl rfl rfl (wo_makeMap Int Int (Value.int .i64) (Value.int .i64) rfl rfl rfl S ?_)
 intro gm1 w1 S1; clear S
 refine wla 1 2 rfl rfl rfl rfl rfl rfl rfl ?_
 refine wl_end rfl ?_
 refine nm_sub [(0, _), (1, _), (5, _)] ⟨rfl, rfl, rfl, trivial⟩ ?_
 refine nm_thn ?_
 refine ws_seqN Times_n5 Times_n6 rfl rfl rfl ?_
 refine ws_seqN Times_n7 Times_n8 rfl rfl rfl ?_
 refine ws_region rfl ?_
 refine wlm 0 1 rfl rfl rfl rfl rfl rfl rfl ?_
 obtain ⟨arr1, clk1, hE1⟩ := hmws.ents
 refine wlo 1 2 rfl rfl rfl (wo_range rfl rfl rfl rfl Try.underlying87 S1 hE1 S1.m ?_)
 intro r1 w2 S2; clear S1
 refine wl_end rfl ?_
 refine nm_sub [(1, _), (5, _), (12, _)] ⟨rfl, rfl, rfl, trivial⟩ ?_
 refine nm_thn ?_
 refine ws_blockN Times_n9 0 rfl rfl rfl ?_
 refine ws_loopE (fun mx_ ax_ wx_ => ∃ (sn : Array Nat) (dn : List (Int × Int)) (lf : List (Int × Int)) (es : List (Int × Int)), mx_ = lf.length ∧ Env 35 [(1, .map (some gvs)), (5, .map (some gm1)), (12, .pointer (some ⟨r1, 0, none⟩))] ax_ ∧ SH wx_ M X [Rs.itr gws clk1 r1 sn, Rs.mp (Value.int .i64) (Value.int .i64) gm1 es] ∧ Lft (Value.int .i64) (Value.int .i64) arr1 sn lf ∧ (dn ++ lf).Perm ws ∧ Ents es (B + B2) ∧ mk es = mk dn * mk vs) rfl ?_ ?_
 ·intro ax_ hax_
  refine ⟨_, ⟨#[], [], ws, [], rfl, hax_.sub ⟨rfl, rfl, rfl, trivial⟩, S2.pick [0, 1] [_, _] (by decide) ⟨rfl, rfl, trivial⟩, ?hq1f0, ?hq1f1, ?hq1f2, ?hq1f3⟩⟩
  case hq1f0 => exact hE1.lft
  case hq1f1 => exact List.Perm.refl _
  case hq1f2 => exact Ents.nil_ _
  case hq1f3 => exact (Pol.zero_mul _).symm
 ·rintro m2 a1 w3 ⟨sn, dn, lf, es, rfl, he1, S3, hlf, hpm, hes, hmk⟩
  clear S2
  refine ws_in he1 (c := Times_n10) rfl ?_
  clear he1 a1
  refine ws_seqN Times_n11 Times_n12 rfl rfl rfl ?_
  refine ws_region rfl ?_
  refine wlo 0 1 rfl rfl rfl (wo_next (i := 0) rfl rfl rfl rfl S3 rfl hE1 S3.m hlf (fun hlf1 => ?_) (fun k1 v1 l1_1 l2_1 sn1 w4 hlf1 hlft1 hlst1 S4 => ?_))
  ·refine wlo 1 2 rfl rfl rfl (wo_run rfl rfl (run_extract rfl rfl rfl) ?_)
   refine wl_end rfl ?_
   refine nm_sub [(1, _), (5, _), (12, _), (14, _)] ⟨rfl, rfl, rfl, rfl, trivial⟩ ?_
   refine nm_thn ?_
   refine ws_seqN Times_n13 Times_n14 rfl rfl rfl ?_
   refine ws_condFN Times_n16 rfl rfl rfl ?_
   refine ws_exit rfl rfl ?_
   refine nm_sub [(5, _)] ⟨rfl, trivial⟩ ?_
   refine nm_thn ?_
   refine ws_seqN Times_n17 Times_n18 rfl rfl rfl ?_
   refine ws_region rfl ?_
   refine wlm 0 1 rfl rfl rfl rfl rfl rfl rfl ?_
   refine wla 1 2 rfl rfl rfl rfl rfl rfl rfl ?_
   refine wl_end rfl ?_
   refine nm_sub [(4, _)] ⟨rfl, trivial⟩ ?_
   refine nm_thn ?_
   obtain ⟨M1, hle2, S5, hm1⟩ := S3.pubmap (i := 1) (H' := [_, _]) rfl rfl; clear S3
   replace hmws := hmws.mono hle2
   replace hmvs := hmvs.mono hle2
   replace hE1 := hE1.mono hle2
   refine ws_ret hC [_] rfl rfl ⟨rfl, trivial⟩ ?_
   refine ⟨_, rfl, _, hle2, (S5.pick [] [] (by decide) trivial), ?_⟩
   obtain rfl : lf = [] := hlf1
   rw [List.append_nil] at hpm
   exact ⟨_, rfl, _, hm1, hes, by rw [hmk, mk_perm hpm]⟩
  ·clear S3
   change SH _ _ _ [Rs.itr gws clk1 r1 sn1, _] at S4
   refine wlo 1 2 rfl rfl rfl (wo_run rfl rfl (run_extract rfl rfl rfl) ?_)
   refine wl_end rfl ?_
   refine nm_sub [(1, _), (5, _), (12, _), (14, _)] ⟨rfl, rfl, rfl, rfl, trivial⟩ ?_
   refine nm_thn ?_
   refine ws_seqN Times_n13 Times_n14 rfl rfl rfl ?_
   refine ws_condTN Times_n15 rfl rfl rfl ?_
   refine ws_skip rfl ?_
   refine nm_sub [(1, _), (5, _), (12, _)] ⟨rfl, rfl, rfl, trivial⟩ ?_
   refine nm_thn ?_
   refine ws_blockN Times_n19 1 rfl rfl rfl ?_
   refine ws_seqN Times_n20 Times_n21 rfl rfl rfl ?_
   refine ws_region rfl ?_
   refine wlo 0 1 rfl rfl rfl (wo_run rfl rfl (run_entry (i := 0) rfl rfl S4 rfl hE1 S4.m hlst1) ?_)
   refine wlo 1 2 rfl rfl rfl (wo_run rfl rfl (run_extract rfl rfl rfl) ?_)
   refine wlo 2 3 rfl rfl rfl (wo_run rfl rfl (run_extract rfl rfl rfl) ?_)
   refine wla 3 4 rfl rfl rfl rfl rfl rfl rfl ?_
   refine wla 4 5 rfl rfl rfl rfl rfl rfl rfl ?_
   refine wl_end rfl ?_
   refine nm_sub [(1, _), (5, _), (12, _), (6, _), (7, _)] ⟨rfl, rfl, rfl, rfl, rfl, trivial⟩ ?_
   refine nm_thn ?_
   refine ws_seqN Times_n22 Times_n23 rfl rfl rfl ?_
   have hk1 := (hws.at_ hpm hlf1).1
   refine ws_region rfl ?_
   refine wlm 0 1 rfl rfl rfl rfl rfl rfl rfl ?_
   obtain ⟨arr2, clk2, hE2⟩ := hmvs.ents
   refine wlo 1 2 rfl rfl rfl (wo_range rfl rfl rfl rfl Try.underlying87 S4 hE2 S4.m ?_)
   intro r2 w5 S6; clear S4
   refine wl_end rfl ?_
   refine nm_sub [(1, _), (5, _), (12, _), (6, _), (7, _), (19, _)] ⟨rfl, rfl, rfl, rfl, rfl, rfl, trivial⟩ ?_
   refine nm_thn ?_
   refine ws_blockN Times_n24 2 rfl rfl rfl ?_
   refine ws_loopE (fun mx_ ax_ wx_ => ∃ (sn2 : Array Nat) (dn2 : List (Int × Int)) (lf2 : List (Int × Int)) (es2 : List (Int × Int)), mx_ = lf2.length ∧ Env 35 [(1, .map (some gvs)), (5, .map (some gm1)), (12, .pointer (some ⟨r1, 0, none⟩)), (6, .int .i64 k1), (7, .int .i64 v1), (19, .pointer (some ⟨r2, 0, none⟩))] ax_ ∧ SH wx_ M X [Rs.itr gvs clk2 r2 sn2, Rs.itr gws clk1 r1 sn1, Rs.mp (Value.int .i64) (Value.int .i64) gm1 es2] ∧ Lft (Value.int .i64) (Value.int .i64) arr2 sn2 lf2 ∧ (dn2 ++ lf2).Perm vs ∧ Ents es2 (B + B2) ∧ mk es2 = mk dn * mk vs + mono k1 v1 * mk dn2) rfl ?_ ?_
   ·intro ax_ hax_
    refine ⟨_, ⟨#[], [], vs, es, rfl, hax_.sub ⟨rfl, rfl, rfl, rfl, rfl, rfl, trivial⟩, S6.pick [0, 1, 2] [_, _, _] (by decide) ⟨rfl, rfl, rfl, trivial⟩, ?hq2f0, ?hq2f1, ?hq2f2, ?hq2f3⟩⟩
    case hq2f0 => exact hE2.lft
    case hq2f1 => exact List.Perm.refl _
    case hq2f2 => exact hes
    case hq2f3 => (rw [hmk]; show _ = _ + mono _ _ * Pol.o; rw [Pol.mul_zero, Pol.add_zero])
   ·rintro m3 a2 w6 ⟨sn2, dn2, lf2, es2, rfl, he2, S7, hlf2, hpm2, hes2, hmk2⟩
    clear S6
    refine ws_in he2 (c := Times_n25) rfl ?_
    clear he2 a2
    refine ws_seqN Times_n26 Times_n27 rfl rfl rfl ?_
    refine ws_region rfl ?_
    refine wlo 0 1 rfl rfl rfl (wo_next (i := 0) rfl rfl rfl rfl S7 rfl hE2 S7.m hlf2 (fun hlf2 => ?_) (fun k2 v2 l1_2 l2_2 sn2 w7 hlf2 hlft2 hlst2 S8 => ?_))
    ·refine wlo 1 2 rfl rfl rfl (wo_run rfl rfl (run_extract rfl rfl rfl) ?_)
     refine wl_end rfl ?_
     refine nm_sub [(1, _), (5, _), (12, _), (6, _), (7, _), (19, _), (21, _)] ⟨rfl, rfl, rfl, rfl, rfl, rfl, rfl, trivial⟩ ?_
     refine nm_thn ?_
     refine ws_seqN Times_n28 Times_n29 rfl rfl rfl ?_
     refine ws_condFN Times_n31 rfl rfl rfl ?_
     refine ws_exit rfl rfl ?_
     refine nm_blk ?_
     refine nm_lp ?_
     have hend2 := hlf2
     intro ax_ hax_
     refine ⟨_, ?hq3m, ⟨sn1, dn ++ [(k1, v1)], l1_1 ++ l2_1, _, rfl, hax_.sub ⟨rfl, rfl, rfl, trivial⟩, S7.pick [1, 2] [_, _] (by decide) ⟨rfl, rfl, trivial⟩, ?hq3f0, ?hq3f1, ?hq3f2, ?hq3f3⟩⟩
     case hq3f0 => assumption
     case hq3f1 => (refine List.Perm.trans ?_ hpm; simp only [*, List.append_assoc, List.cons_append, List.nil_append]; exact (List.perm_append_left_iff _).2 (List.perm_middle.symm))
     case hq3f2 => exact hes2
     case hq3f3 => (rw [hmk2, mk_snoc, Pol.add_mul, mk_perm (show dn2.Perm vs by rw [← List.append_nil dn2]; have h9 := hpm2; rw [hend2] at h9; exact h9)])
     case hq3m => (simp only [*, List.length_append, List.length_cons]; omega)
    ·clear S7
     change SH _ _ _ [Rs.itr gvs clk2 r2 sn2, _, _] at S8
     refine wlo 1 2 rfl rfl rfl (wo_run rfl rfl (run_extract rfl rfl rfl) ?_)
     refine wl_end rfl ?_
     refine nm_sub [(1, _), (5, _), (12, _), (6, _), (7, _), (19, _), (21, _)] ⟨rfl, rfl, rfl, rfl, rfl, rfl, rfl, trivial⟩ ?_
     refine nm_thn ?_
     refine ws_seqN Times_n28 Times_n29 rfl rfl rfl ?_
     refine ws_condTN Times_n30 rfl rfl rfl ?_
     refine ws_skip rfl ?_
     refine nm_sub [(1, _), (5, _), (12, _), (6, _), (7, _), (19, _)] ⟨rfl, rfl, rfl, rfl, rfl, rfl, trivial⟩ ?_
     refine nm_thn ?_
     refine ws_blockN Times_n32 3 rfl rfl rfl ?_
     refine ws_seqN Times_n33 Times_n34 rfl rfl rfl ?_
     refine ws_region rfl ?_
     refine wlo 0 1 rfl rfl rfl (wo_run rfl rfl (run_entry (i := 0) rfl rfl S8 rfl hE2 S8.m hlst2) ?_)
     refine wlo 1 2 rfl rfl rfl (wo_run rfl rfl (run_extract rfl rfl rfl) ?_)
     refine wlo 2 3 rfl rfl rfl (wo_run rfl rfl (run_extract rfl rfl rfl) ?_)
     refine wla 3 4 rfl rfl rfl rfl rfl rfl rfl ?_
     refine wla 4 5 rfl rfl rfl rfl rfl rfl rfl ?_
     refine wl_end rfl ?_
     refine nm_sub [(1, _), (5, _), (12, _), (6, _), (7, _), (19, _), (8, _), (9, _)] ⟨rfl, rfl, rfl, rfl, rfl, rfl, rfl, rfl, trivial⟩ ?_
     refine nm_thn ?_
     have hk2 := (hvs.at_ hpm2 hlf2).1
     refine ws_region rfl ?_
     refine wlm 0 1 rfl rfl rfl rfl rfl rfl rfl ?_
     refine wlm 1 2 rfl rfl rfl rfl rfl rfl rfl ?_
     refine wlm 2 3 rfl rfl rfl rfl rfl rfl rfl ?_
     refine wlo 3 4 rfl rfl rfl (wo_run rfl rfl (run_add rfl rfl rfl (by first | omega | (simp only [lens]; omega))) ?_)
     refine wlo 4 5 rfl rfl rfl (wo_run rfl rfl (run_lookup (kc := Value.int .i64) (vc := Value.int .i64) (es := es2) (k := (k1 + k2)) (zv := 0) (i := 2) rfl rfl rfl Try.underlying87 mk3 zr3 S8 rfl) ?_)
     refine wlm 5 6 rfl rfl rfl rfl rfl rfl rfl ?_
     refine wlm 6 7 rfl rfl rfl rfl rfl rfl rfl ?_
     refine wlo 7 8 rfl rfl rfl (wo_run rfl rfl (run_mulW rfl rfl rfl) ?_)
     refine wlo 8 9 rfl rfl rfl (wo_run rfl rfl (run_addW rfl rfl rfl) ?_)
     refine wlo 9 10 rfl rfl rfl (wo_mapUpdate (kc := Value.int .i64) (vc := Value.int .i64) (es := es2) (k := (k1 + k2)) (e := (wr (((mg (k1 + k2) es2).getD 0) + (wr (v1 * v2))))) (i := 2) (H' := [_, _, _]) (.inl rfl) rfl S8 rfl rfl rfl rfl Try.underlying87 mk3 rfl ?_)
     intro w8 S9; clear S8
     refine wl_end rfl ?_
     refine nm_blk ?_
     refine nm_lp ?_
     intro ax_ hax_
     refine ⟨_, ?hq4m, ⟨sn2, dn2 ++ [(k2, v2)], l1_2 ++ l2_2, _, rfl, hax_.sub ⟨rfl, rfl, rfl, rfl, rfl, rfl, trivial⟩, S9.pick [0, 1, 2] [_, _, _] (by decide) ⟨rfl, rfl, rfl, trivial⟩, ?hq4f0, ?hq4f1, ?hq4f2, ?hq4f3⟩⟩
     case hq4f0 => assumption
     case hq4f1 => (refine List.Perm.trans ?_ hpm2; simp only [*, List.append_assoc, List.cons_append, List.nil_append]; exact (List.perm_append_left_iff _).2 (List.perm_middle.symm))
     case hq4f2 => exact mp_ents hes2 (by omega) (wr_idem _)
     case hq4f3 => exact times_step hmk2
     case hq4m => (simp only [*, List.length_append, List.length_cons]; omega)
noncomputable def Shift_n0 : Code := Try.f104.body.getD .skip
noncomputable def Shift_n1 : Code := cL Shift_n0
noncomputable def Shift_n2 : Code := cR Shift_n0
noncomputable def Shift_n3 : Code := cL Shift_n2
noncomputable def Shift_n4 : Code := cR Shift_n2
noncomputable def Shift_n5 : Code := cL Shift_n4
noncomputable def Shift_n6 : Code := cR Shift_n4
noncomputable def Shift_n7 : Code := cL Shift_n5
noncomputable def Shift_n8 : Code := cR Shift_n5
noncomputable def Shift_n9 : Code := cL Shift_n8
noncomputable def Shift_n10 : Code := cL Shift_n9
noncomputable def Shift_n11 : Code := cL Shift_n10
noncomputable def Shift_n12 : Code := cR Shift_n10
noncomputable def Shift_n13 : Code := cL Shift_n12
noncomputable def Shift_n14 : Code := cR Shift_n12
noncomputable def Shift_n15 : Code := cL Shift_n13
noncomputable def Shift_n16 : Code := cR Shift_n13
noncomputable def Shift_n17 : Code := cL Shift_n6
noncomputable def Shift_n18 : Code := cR Shift_n6
noncomputable def Shift_n19 : Code := cL Shift_n14
noncomputable def Shift_n20 : Code := cL Shift_n19
noncomputable def Shift_n21 : Code := cR Shift_n19
set_option maxRecDepth 10000 in
theorem Shift_t {w : World} {M : Hp} {X : Fr} (ws : List (Int × Int)) {gws : Nat} (e : Int) (c : Int) (hmws : MpOk (Value.int .i64) (Value.int .i64) gws ws M) (B E : Nat) (hws : Ents ws B) (he : -(E : Int) ≤ e ∧ e ≤ E) (hB : B + E ≤ 1099511627776) (S : SH w M X []) : Ct Try.prog 104 [.map (some gws), .int .i64 e, .int .i64 c] w M X (WkR (B + E) (mk ws * mono e c)) := by
 unfold Ct
 refine calls_in (b := Shift_n0) Try.func104 rfl Try.ntmps104 rfl (fun C hC => ?_)
 refine ws_sub [(0, _), (1, _), (2, _)] ⟨rfl, rfl, rfl, trivial⟩ ?_
 refine ws_seqN Shift_n1 Shift_n2 rfl rfl rfl ?_
 refine ws_region rfl ?_
 refine wla 0 1 rfl rfl rfl rfl rfl rfl rfl ?_
 refine wl_end rfl ?_
 refine nm_sub [(0, _), (1, _), (2, _)] ⟨rfl, rfl, rfl, trivial⟩ ?_
 refine nm_thn ?_
 refine ws_seqN Shift_n3 Shift_n4 rfl rfl rfl ?_
 refine ws_region rfl ?_
 refine wlo 0 1 rfl rfl rfl (wo_makeMap Int Int (Value.int .i64) (Value.int .i64) rfl rfl rfl S ?_)
 intro gm1 w1 S1; clear S
 refine wla 1 2 rfl rfl rfl rfl rfl rfl rfl ?_
 refine wl_end rfl ?_
 refine nm_sub [(0, _), (1, _), (2, _), (7, _)] ⟨rfl, rfl, rfl, rfl, trivial⟩ ?_
 refine nm_thn ?_
 refine ws_seqN Shift_n5 Shift_n6 rfl rfl rfl ?_
 refine ws_seqN Shift_n7 Shift_n8 rfl rfl rfl ?_
 refine ws_region rfl ?_
 refine wlm 0 1 rfl rfl rfl rfl rfl rfl rfl ?_
 obtain ⟨arr1, clk1, hE1⟩ := hmws.ents
 refine wlo 1 2 rfl rfl rfl (wo_range rfl rfl rfl rfl Try.underlying87 S1 hE1 S1.m ?_)
 intro r1 w2 S2; clear S1
 refine wl_end rfl ?_
 refine nm_sub [(1, _), (2, _), (7, _), (12, _)] ⟨rfl, rfl, rfl, rfl, trivial⟩ ?_
 refine nm_thn ?_
 refine ws_blockN Shift_n9 0 rfl rfl rfl ?_
 refine ws_loopE (fun mx_ ax_ wx_ => ∃ (sn : Array Nat) (dn : List (Int × Int)) (lf : List (Int × Int)) (es : List (Int × Int)), mx_ = lf.length ∧ Env 26 [(1, .int .i64 e), (2, .int .i64 c), (7, .map (some gm1)), (12, .pointer (some ⟨r1, 0, none⟩))] ax_ ∧ SH wx_ M X [Rs.itr gws clk1 r1 sn, Rs.mp (Value.int .i64) (Value.int .i64) gm1 es] ∧ Lft (Value.int .i64) (Value.int .i64) arr1 sn lf ∧ (dn ++ lf).Perm ws ∧ Ents es (B + E) ∧ mk es = mk dn * mono e c ∧ es.map Prod.fst = dn.map fun q => q.1 + e) rfl ?_ ?_
 ·intro ax_ hax_
  refine ⟨_, ⟨#[], [], ws, [], rfl, hax_.sub ⟨rfl, rfl, rfl, rfl, trivial⟩, S2.pick [0, 1] [_, _] (by decide) ⟨rfl, rfl, trivial⟩, ?hq1f0, ?hq1f1, ?hq1f2, ?hq1f3, ?hq1f4⟩⟩
  case hq1f0 => exact hE1.lft
  case hq1f1 => exact List.Perm.refl _
  case hq1f2 => exact Ents.nil_ _
  case hq1f3 => exact (Pol.zero_mul _).symm
  case hq1f4 => rfl
 ·rintro m2 a1 w3 ⟨sn, dn, lf, es, rfl, he1, S3, hlf, hpm, hes, hmk, hky⟩
  clear S2
  refine ws_in he1 (c := Shift_n10) rfl ?_
  clear he1 a1
  refine ws_seqN Shift_n11 Shift_n12 rfl rfl rfl ?_
  refine ws_region rfl ?_
  refine wlo 0 1 rfl rfl rfl (wo_next (i := 0) rfl rfl rfl rfl S3 rfl hE1 S3.m hlf (fun hlf1 => ?_) (fun k1 v1 l1_1 l2_1 sn1 w4 hlf1 hlft1 hlst1 S4 => ?_))
  ·refine wlo 1 2 rfl rfl rfl (wo_run rfl rfl (run_extract rfl rfl rfl) ?_)
   refine wl_end rfl ?_
   refine nm_sub [(1, _), (2, _), (7, _), (12, _), (14, _)] ⟨rfl, rfl, rfl, rfl, rfl, trivial⟩ ?_
   refine nm_thn ?_
   refine ws_seqN Shift_n13 Shift_n14 rfl rfl rfl ?_
   refine ws_condFN Shift_n16 rfl rfl rfl ?_
   refine ws_exit rfl rfl ?_
   refine nm_sub [(7, _)] ⟨rfl, trivial⟩ ?_
   refine nm_thn ?_
   refine ws_seqN Shift_n17 Shift_n18 rfl rfl rfl ?_
   refine ws_region rfl ?_
   refine wlm 0 1 rfl rfl rfl rfl rfl rfl rfl ?_
   refine wla 1 2 rfl rfl rfl rfl rfl rfl rfl ?_
   refine wl_end rfl ?_
   refine nm_sub [(6, _)] ⟨rfl, trivial⟩ ?_
   refine nm_thn ?_
   obtain ⟨M1, hle2, S5, hm1⟩ := S3.pubmap (i := 1) (H' := [_, _]) rfl rfl; clear S3
   replace hmws := hmws.mono hle2
   replace hE1 := hE1.mono hle2
   refine ws_ret hC [_] rfl rfl ⟨rfl, trivial⟩ ?_
   refine ⟨_, rfl, _, hle2, (S5.pick [] [] (by decide) trivial), ?_⟩
   obtain rfl : lf = [] := hlf1
   rw [List.append_nil] at hpm
   exact ⟨_, rfl, _, hm1, hes, by rw [hmk, mk_perm hpm]⟩
  ·clear S3
   change SH _ _ _ [Rs.itr gws clk1 r1 sn1, _] at S4
   refine wlo 1 2 rfl rfl rfl (wo_run rfl rfl (run_extract rfl rfl rfl) ?_)
   refine wl_end rfl ?_
   refine nm_sub [(1, _), (2, _), (7, _), (12, _), (14, _)] ⟨rfl, rfl, rfl, rfl, rfl, trivial⟩ ?_
   refine nm_thn ?_
   refine ws_seqN Shift_n13 Shift_n14 rfl rfl rfl ?_
   refine ws_condTN Shift_n15 rfl rfl rfl ?_
   refine ws_skip rfl ?_
   refine nm_sub [(1, _), (2, _), (7, _), (12, _)] ⟨rfl, rfl, rfl, rfl, trivial⟩ ?_
   refine nm_thn ?_
   refine ws_blockN Shift_n19 1 rfl rfl rfl ?_
   refine ws_seqN Shift_n20 Shift_n21 rfl rfl rfl ?_
   refine ws_region rfl ?_
   refine wlo 0 1 rfl rfl rfl (wo_run rfl rfl (run_entry (i := 0) rfl rfl S4 rfl hE1 S4.m hlst1) ?_)
   refine wlo 1 2 rfl rfl rfl (wo_run rfl rfl (run_extract rfl rfl rfl) ?_)
   refine wlo 2 3 rfl rfl rfl (wo_run rfl rfl (run_extract rfl rfl rfl) ?_)
   refine wla 3 4 rfl rfl rfl rfl rfl rfl rfl ?_
   refine wla 4 5 rfl rfl rfl rfl rfl rfl rfl ?_
   refine wl_end rfl ?_
   refine nm_sub [(1, _), (2, _), (7, _), (12, _), (8, _), (9, _)] ⟨rfl, rfl, rfl, rfl, rfl, rfl, trivial⟩ ?_
   refine nm_thn ?_
   have hk1 := (hws.at_ hpm hlf1).1
   refine ws_region rfl ?_
   refine wlm 0 1 rfl rfl rfl rfl rfl rfl rfl ?_
   refine wlm 1 2 rfl rfl rfl rfl rfl rfl rfl ?_
   refine wlm 2 3 rfl rfl rfl rfl rfl rfl rfl ?_
   refine wlo 3 4 rfl rfl rfl (wo_run rfl rfl (run_add rfl rfl rfl (by first | omega | (simp only [lens]; omega))) ?_)
   refine wlm 4 5 rfl rfl rfl rfl rfl rfl rfl ?_
   refine wlm 5 6 rfl rfl rfl rfl rfl rfl rfl ?_
   refine wlo 6 7 rfl rfl rfl (wo_run rfl rfl (run_mulW rfl rfl rfl) ?_)
   refine wlo 7 8 rfl rfl rfl (wo_mapUpdate (kc := Value.int .i64) (vc := Value.int .i64) (es := es) (k := (k1 + e)) (e := (wr (v1 * c))) (i := 1) (H' := [_, _]) (.inl rfl) rfl S4 rfl rfl rfl rfl Try.underlying87 mk3 rfl ?_)
   intro w5 S6; clear S4
   refine wl_end rfl ?_
   refine nm_blk ?_
   refine nm_lp ?_
   intro ax_ hax_
   refine ⟨_, ?hq2m, ⟨sn1, dn ++ [(k1, v1)], l1_1 ++ l2_1, _, rfl, hax_.sub ⟨rfl, rfl, rfl, rfl, trivial⟩, S6.pick [0, 1] [_, _] (by decide) ⟨rfl, rfl, trivial⟩, ?hq2f0, ?hq2f1, ?hq2f2, ?hq2f3, ?hq2f4⟩⟩
   case hq2f0 => assumption
   case hq2f1 => (refine List.Perm.trans ?_ hpm; simp only [*, List.append_assoc, List.cons_append, List.nil_append]; exact (List.perm_append_left_iff _).2 (List.perm_middle.symm))
   case hq2f2 => exact mp_ents hes (by omega) (wr_idem _)
   case hq2f3 => exact (shift_step hws.1 hpm (by assumption) hky hmk).1
   case hq2f4 => exact (shift_step hws.1 hpm (by assumption) hky hmk).2
   case hq2m => (simp only [*, List.length_append, List.length_cons]; omega)
theorem FormW_t {w : World} {M : Hp} {X : Fr} {g B : Nat} {p : Pol} (h : Wk M g B p) (hB : B ≤ 1099511627776) (S : SH w M X []) : Ct Try.prog 65 [.map (some g)] w M X (PT B p) := by
 obtain ⟨es, h1, h2, rfl⟩ := h
 unfold Ct
 refine (Form_t es h1 B h2 hB S).mono ?_
 rintro e w' ⟨v, rfl, M', hle, S', A, c, rfl, hr⟩
 exact ⟨_, rfl, M', hle, S', A, c, _, rfl, hr, formL_can h2 hB, formL_bd h2, mk_formL h2⟩
theorem PlusW_t {w : World} {M : Hp} {X : Fr} {g g2 B C : Nat} {p q : Pol} (h : Wk M g B p) (k : Wk M g2 C q) (D : Nat) (hB : B ≤ D) (hC : C ≤ D) (hD : D ≤ 1099511627776) (S : SH w M X []) : Ct Try.prog 60 [.map (some g), .map (some g2)] w M X (WkR D (p + q)) := by
 obtain ⟨es, h1, h2, rfl⟩ := h.up hB
 obtain ⟨fs, k1, k2, rfl⟩ := k.up hC
 exact Plus_t es fs h1 k1 D h2 k2 S
theorem TimesW_t {w : World} {M : Hp} {X : Fr} {g g2 B C : Nat} {p q : Pol} (h : Wk M g B p) (k : Wk M g2 C q) (hB : B + C ≤ 1099511627776) (S : SH w M X []) : Ct Try.prog 61 [.map (some g), .map (some g2)] w M X (WkR (B + C) (p * q)) := by
 obtain ⟨es, h1, h2, rfl⟩ := h
 obtain ⟨fs, k1, k2, rfl⟩ := k
 exact Times_t es fs h1 k1 B C h2 k2 hB S
theorem ShiftW_t {w : World} {M : Hp} {X : Fr} {g B : Nat} {p : Pol} (h : Wk M g B p) (e c : Int) (E : Nat) (he : -(E : Int) ≤ e ∧ e ≤ E) (hB : B + E ≤ 1099511627776) (S : SH w M X []) : Ct Try.prog 104 [.map (some g), .int .i64 e, .int .i64 c] w M X (WkR (B + E) (p * mono e c)) := by
 obtain ⟨es, h1, h2, rfl⟩ := h
 exact Shift_t es e c h1 B E h2 he hB S
end Go.Proofs.Ytkcighnochjlgaa
namespace Go.Proofs.Ytkcighnochjlgaa
open Go.ChangeShapes Go.WideShapes Go.ChangeAt Go.RowKit
section
variable {α : Type} {C : Cd α} {N N' : Hp} {vs vs' : List SlV} {xss yss : List (List α)}
theorem Rd2.take_ (h : Rd2 C N vs xss) (k : Nat) : Rd2 C N (vs.take k) (xss.take k) := ⟨by rw [List.length_take, List.length_take, h.1], fun i hi => by
  rw [List.length_take] at hi
  have := h.2 i (by omega)
  rw [ga_take _ _ _ (by omega), ga_take _ _ _ (by omega)]
  exact this⟩
theorem ga_drop {β : Type} [Inhabited β] (xs : List β) (k i : Nat) : ga (xs.drop k) i = ga xs (k + i) := by
  unfold ga; simp [List.getD_eq_getElem?_getD]
theorem Rd2.drop_ (h : Rd2 C N vs xss) (k : Nat) : Rd2 C N (vs.drop k) (xss.drop k) := ⟨by rw [List.length_drop, List.length_drop, h.1], fun i hi => by
  rw [List.length_drop] at hi
  have := h.2 (k + i) (by omega)
  rw [ga_drop, ga_drop]
  exact this⟩
theorem Rd2.app (h : Rd2 C N vs xss) (h' : Rd2 C N vs' yss) : Rd2 C N (vs ++ vs') (xss ++ yss) := ⟨by rw [List.length_append, List.length_append, h.1, h'.1], fun i hi => by
  rw [List.length_append] at hi
  have hl := h.1
  by_cases e : i < vs.length
  · rw [ga_append_left _ _ _ e, ga_append_left _ _ _ (by omega)]
    exact h.2 i (by omega)
  · rw [ga_append_right _ _ _ (by omega), ga_append_right _ _ _ (by omega), hl]
    exact h'.2 _ (by omega)⟩
/-- The inner lists' own lists. -/
def RdD (C : Cd α) (N : Hp) (svs : List (List SlV)) (mm : List (List (List α))) : Prop := svs.length = mm.length ∧ ∀ i, i < svs.length → Rd2 C N (ga svs i) (ga mm i)
variable {svs : List (List SlV)} {mm : List (List (List α))}
theorem RdD.mono (h : RdD C N svs mm) (k : N.le N') : RdD C N' svs mm := ⟨h.1, fun i hi => (h.2 i hi).mono k⟩
theorem RdD.nil_ : RdD C N [] [] := ⟨rfl, fun i hi => by simp at hi⟩
theorem RdD.snoc (h : RdD C N svs mm) (k : Rd2 C N vs xss) : RdD C N (svs ++ [vs]) (mm ++ [xss]) := ⟨by simp [h.1], fun j hj => by
  simp at hj
  by_cases e : j < svs.length
  · rw [ga_append_left _ _ _ e, ga_append_left _ _ _ (by rw [← h.1]; exact e)]; exact h.2 j e
  · have hl := h.1
    obtain rfl : j = svs.length := by omega
    rw [ga_append_right svs _ _ (by omega), ga_append_right mm _ _ (by omega), show svs.length - svs.length = 0 by omega, show svs.length - mm.length = 0 by omega]
    exact k⟩
end
section
variable {P : Program} {o : Oper} {L : List (Nat × Value)} {w : World} {x hx : Operand} {t tn T : TypeId} {n d : Nat} {Kt : List (Nat × Value) → World → Prop} {M : Hp} {X : Fr} {H : List Rs}
end
end Go.Proofs.Ytkcighnochjlgaa
namespace Go.Proofs.Ytkcighnochjlgaa
open Go.ChangeShapes Go.WideShapes Go.ChangeAt Go.RowKit
section
variable {P : Program} {o : Oper} {L : List (Nat × Value)} {w : World} {n d : Nat} {Kt : List (Nat × Value) → World → Prop} {M : Hp} {X : Fr} {H : List Rs} {i : Nat} {r : Rs}
theorem SH.less (S : SH w M X H) (hi : nth H i = some r) : SH w M X (H.set i Rs.emp) := S.step hi rfl (Like.refl w) (fun _ _ _ => rfl) trivial (fun b hb => by cases hb)
theorem wo_c1F {f : FuncId} {vs cap : List Value} {ca : Call} {fo : Operand} {xs : List Operand} (hd : o.dst = some d) (hop : o.op = .call ca) (hca : ca.callee = .value fo) (hfo : oev L fo = some (.func (.func f) #[] cap.toArray))
    (hxs : ca.args = xs.toArray) (hvs : oevs L xs = some vs) (hn : Nat.blt d n = true) (hen : ∀ args w, (callFunc f args).run P w = .ok (.enter f args) w) (S : SH w M X H) (hi : nth H i = some r)
    {R : Value → Hp → Rs → Prop} (hcall : C1 P f (vs ++ cap) w M (XH w X (H.set i Rs.emp)) R) (h : ∀ v w' M' r', M.le M' → SH w' M' X (H.set i r') → R v M' r' → Kt ((d, v) :: L) w') : WO P n o L w Kt := by
  intro a ha next Q hk
  have hr : (execOp a.eval o).run P w = .ok (.enter f (vs ++ cap).toArray) w := by
    unfold execOp
    simp only [hop, resolve, hca, ha.eval hfo, hxs, List.map_toArray, ha.evals hvs, Deferred.ofValue, Sem.run_bind, Sem.run_pure, Result.andThen_ok, invoke, Array.empty_append, List.append_toArray]
    exact hen _ _
  unfold Oper.wp
  rw [hr, Oper.upon_enter, hd]
  refine hcall.mono ?_
  rintro e w' ⟨v, rfl, M', r', h1, h2, h4⟩
  exact hk _ _ _ (ha.put (by simpa using hn) v) (h v w' M' r' h1 (S.back1 hi h2 rfl) h4)
end
end Go.Proofs.Ytkcighnochjlgaa
namespace Go.Proofs.Ytkcighnochjlgaa
open Go.ChangeShapes Go.WideShapes Go.ChangeAt Go.RowKit
/-- Few crossings: what forbids it. -/
def errK (d : Dg) (m : Nat) : Int := if errO d = 0 then (if m < d.crs.length then 2 else 0) else errO d
theorem errK_ok {d : Dg} {m : Nat} (h : errK d m = 0) : errO d = 0 ∧ d.crs.length ≤ m := by
 unfold errK at h
 split at h
 ·split at h
  ·cases h
  ·exact ⟨by assumption, by omega⟩
 ·exact absurd h (by assumption)
def OpenF (m : Nat) (d : Dg) (v : Value) (N : Hp) : Prop :=
 (errK d m ≠ 0 ∧ v = .tuple [.pointer none, .int .i64 (errK d m)].toArray) ∨
 (errK d m = 0 ∧ ∃ g cA iA oA cc ic oc, v = .tuple [.pointer (some ⟨g, 0, none⟩), .int .i64 0].toArray ∧ ShM N d g cA iA oA cc ic oc)
def mostN (l : List Int) : Nat → Int
 | 0 => 0
 | k + 1 => if mostN l k < ga l k + 1 then ga l k + 1 else mostN l k
theorem cn_up {p : Nat → Bool} {a b : Nat} (h : a ≤ b) : cn p a ≤ cn p b := by
 induction b with
 | zero => obtain rfl : a = 0 := (by omega); exact Nat.le_refl _
 | succ b ih =>
  by_cases e : a = b + 1
  ·subst e; exact Nat.le_refl _
  ·have := ih (by omega)
   rw [cn]; omega
theorem cls_pos {d : Dg} (h : arcsB d = true) {a : Nat} (h1 : 1 ≤ a) (h2 : a < 2 * d.crs.length + 1) : 1 ≤ (ga (clsL d) a).toNat := by
 obtain ⟨o1, o2, o3⟩ := (clsN_ok h d.crs.length (Nat.le_refl _)).2 a h2
 have hc := cls_con h (fun x => x = 0) (fun k hk => by
  have hb := arcAt_bd h (i := k) hk (k := 1) (by omega)
  have hd := arcAt_bd h (i := k) hk (k := 3) (by omega)
  obtain ⟨⟨b1, b2⟩, ⟨b3, b4⟩⟩ := cls_bd h hk
  have e1 : arcAt d k 1 = (ga d.crs k).b := rfl
  have e2 : arcAt d k 3 = (ga d.crs k).d := rfl
  constructor <;> intro h9 <;> exfalso <;> omega) d.crs.length (Nat.le_refl _) a (ga (clsL d) a).toNat h2 (by unfold clsL; omega) (by unfold clsL; rw [o3])
 rcases Nat.eq_zero_or_pos (ga (clsL d) a).toNat with h9 | h9
 ·have := hc.2 h9; omega
 ·exact h9
theorem most_ov {d : Dg} (h : arcsB d = true) (k : Nat) (hk : k ≤ 2 * d.crs.length) : mostN (ovTail d) k = rk d (k + 1) := by
 induction k with
 | zero => rfl
 | succ k ih =>
  rw [mostN, ih (by omega)]
  have e1 : ga (ovTail d) k = ovA d (k + 1) := by
   rw [ga_eq (by simp [ovTail]; omega)]; simp [ovTail]
  rw [e1]
  obtain ⟨o1, o2, o3⟩ := (clsN_ok h d.crs.length (Nat.le_refl _)).2 (k + 1) (by omega)
  have hp := cls_pos h (a := k + 1) (by omega) (by omega)
  by_cases e : ga (clsL d) (k + 1) = ((k + 1 : Nat) : Int)
  ·have e2 : ovA d (k + 1) = rk d (k + 1) := by unfold ovA; rw [e]; rfl
   rw [rk_root (by omega) e, e2, if_pos (by omega)]
  ·rw [rk_skip e]
   have e3 : ga (clsL d) (ga (clsL d) (k + 1)).toNat = (((ga (clsL d) (k + 1)).toNat : Nat) : Int) := by
    unfold clsL at *; rw [o3]; omega
   have e4 := rk_root hp e3
   have e5 : rk d ((ga (clsL d) (k + 1)).toNat + 1) ≤ rk d (k + 1) := by
    unfold rk; exact_mod_cast cn_up (by unfold clsL at *; omega)
   have e6 : ovA d (k + 1) = rk d (ga (clsL d) (k + 1)).toNat := rfl
   rw [if_neg (by omega)]
theorem ov_lt {d : Dg} (h : arcsB d = true) {a : Nat} (h1 : 1 ≤ a) (h2 : a ≤ 2 * d.crs.length) : 0 ≤ ovA d a ∧ ovA d a < rk d (2 * d.crs.length + 1) := by
 obtain ⟨o1, o2, o3⟩ := (clsN_ok h d.crs.length (Nat.le_refl _)).2 a (by omega)
 have hp := cls_pos h h1 (by omega)
 have e3 : ga (clsL d) (ga (clsL d) a).toNat = (((ga (clsL d) a).toNat : Nat) : Int) := by
  unfold clsL at *; rw [o3]; omega
 have e4 := rk_root hp e3
 have e5 : rk d ((ga (clsL d) a).toNat + 1) ≤ rk d (2 * d.crs.length + 1) := by
  unfold rk; exact_mod_cast cn_up (by unfold clsL at *; omega)
 have e6 : ovA d a = rk d (ga (clsL d) a).toNat := rfl
 have := rk_bd d (ga (clsL d) a).toNat
 omega
noncomputable def AOpen_n0 : Code := Try.f77.body.getD .skip
noncomputable def AOpen_n1 : Code := cL AOpen_n0
noncomputable def AOpen_n2 : Code := cR AOpen_n0
noncomputable def AOpen_n3 : Code := cL AOpen_n2
noncomputable def AOpen_n4 : Code := cR AOpen_n2
noncomputable def AOpen_n5 : Code := cL AOpen_n4
noncomputable def AOpen_n6 : Code := cR AOpen_n4
noncomputable def AOpen_n7 : Code := cL AOpen_n5
noncomputable def AOpen_n8 : Code := cL AOpen_n7
noncomputable def AOpen_n9 : Code := cR AOpen_n7
noncomputable def AOpen_n10 : Code := cL AOpen_n9
noncomputable def AOpen_n11 : Code := cR AOpen_n9
noncomputable def AOpen_n12 : Code := cL AOpen_n10
noncomputable def AOpen_n13 : Code := cR AOpen_n10
noncomputable def AOpen_n14 : Code := cL AOpen_n11
noncomputable def AOpen_n15 : Code := cR AOpen_n11
noncomputable def AOpen_n16 : Code := cL AOpen_n15
noncomputable def AOpen_n17 : Code := cR AOpen_n15
noncomputable def AOpen_n18 : Code := cL AOpen_n16
noncomputable def AOpen_n19 : Code := cR AOpen_n16
noncomputable def AOpen_n20 : Code := cL AOpen_n6
noncomputable def AOpen_n21 : Code := cR AOpen_n6
set_option maxRecDepth 10000 in
theorem AOpen_t {w : World} {M : Hp} {X : Fr} (d : Dg) {dcrsA : Option Addr} {dcrsc : Nat} (hdcrs : RdA cdCr (M.un X.h) dcrsA dcrsc d.crs) (S : SH w M X []) : Ct Try.prog 77 [.agg [.slice dcrsA d.crs.length dcrsc, .int .i64 d.loops].toArray] w M X (OpenF 10 d) := by
 unfold Ct
 have rmhdcrs : d.crs.length * 40 ≤ 140737488355328 := hdcrs.room
 refine calls_in (b := AOpen_n0) Try.func77 rfl Try.ntmps77 rfl (fun C hC => ?_)
 refine ws_sub [(0, _)] ⟨rfl, trivial⟩ ?_
 refine ws_seqN AOpen_n1 AOpen_n2 rfl rfl rfl ?_
 refine ws_region rfl ?_
 refine wlo 0 1 rfl rfl rfl (wo_box (l := [_, _]) rfl rfl rfl rfl rfl S ?_)
 intro gb1 w1 S1; clear S
 refine wla 1 2 rfl rfl rfl rfl rfl rfl rfl ?_
 refine wla 2 3 rfl rfl rfl rfl rfl rfl rfl ?_
 refine wl_end rfl ?_
 refine nm_sub [(1, _)] ⟨rfl, trivial⟩ ?_
 refine nm_thn ?_
 refine ws_seqN AOpen_n3 AOpen_n4 rfl rfl rfl ?_
 refine ws_region rfl ?_
 refine wlo 0 1 rfl rfl rfl (wo_run rfl rfl (run_loadN (us := [_, _]) rfl rfl Try.underlying51 rfl sz51 (S1.boxcs (i := 0) rfl ⟨rfl, rfl, trivial⟩)) ?_)
 refine wlo 1 2 rfl rfl rfl (wo_ct rfl rfl rfl rfl rfl rfl rfl cf82 S1 (Open_t d (hdcrs.mono S1.un_XH) S1.lend) ?_)
 intro vw2 w2 M1 hle1 S2 hRw2; clear S1
 replace hdcrs := hdcrs.mono (Hp.un_mono hle1 S2.mx)
 rcases hRw2 with ⟨hopn8, rfl⟩ | ⟨hopn8, g1, cA8, iA8, oA8, cc8, ic8, oc8, rfl, hsb8, hsc8, hsi8, hso8⟩
 ·refine wlm 2 3 rfl rfl rfl rfl rfl rfl rfl ?_
  refine wlo 3 4 rfl rfl rfl (wo_run rfl rfl (run_extract rfl rfl rfl) ?_)
  refine wlo 4 5 rfl rfl rfl (wo_run rfl rfl (run_extract rfl rfl rfl) ?_)
  refine wla 5 6 rfl rfl rfl rfl rfl rfl rfl ?_
  refine wla 6 7 rfl rfl rfl rfl rfl rfl rfl ?_
  refine wl_end rfl ?_
  refine nm_sub [(4, _), (5, _)] ⟨rfl, rfl, trivial⟩ ?_
  refine nm_thn ?_
  refine ws_seqN AOpen_n5 AOpen_n6 rfl rfl rfl ?_
  refine ws_blockN AOpen_n7 0 rfl rfl rfl ?_
  refine ws_seqN AOpen_n8 AOpen_n9 rfl rfl rfl ?_
  refine ws_region rfl ?_
  refine wlm 0 1 rfl rfl rfl rfl rfl rfl rfl ?_
  refine wlo 1 2 rfl rfl rfl (wo_run rfl rfl (run_neq rfl rfl rfl) ?_)
  refine wla 2 3 rfl rfl rfl rfl rfl rfl rfl ?_
  refine wl_end rfl ?_
  refine nm_sub [(4, _), (5, _), (11, _)] ⟨rfl, rfl, rfl, trivial⟩ ?_
  refine nm_thn ?_
  refine ws_condN AOpen_n10 AOpen_n11 rfl rfl rfl rfl (fun hb11 => ?_) (fun hb11 => ?_)
  ·have hb11 := of_decide_eq_true hb11
   refine ws_seqN AOpen_n12 AOpen_n13 rfl rfl rfl ?_
   refine ws_region rfl ?_
   refine wlm 0 1 rfl rfl rfl rfl rfl rfl rfl ?_
   refine wla 1 2 rfl rfl rfl rfl rfl rfl rfl ?_
   refine wla 2 3 rfl rfl rfl rfl rfl rfl rfl ?_
   refine wl_end rfl ?_
   refine nm_sub [(2, _), (3, _)] ⟨rfl, rfl, trivial⟩ ?_
   refine nm_thn ?_
   refine ws_ret hC [_, _] rfl rfl ⟨rfl, rfl, trivial⟩ ?_
   refine ⟨_, rfl, _, hle1, (S2.pick [] [] (by decide) trivial), ?_⟩
   have e0 : errK d 10 = errO d := by unfold errK; rw [if_neg hopn8]
   exact .inl ⟨by rw [e0]; exact hopn8, by rw [e0]; rfl⟩
  ·have hb11 := of_decide_eq_false hb11
   exfalso; omega
 ·obtain ⟨hmo, hpl⟩ := errO_ok hopn8
  obtain ⟨hn, hab, hlo0, hlo1⟩ := mayO hmo
  refine wlm 2 3 rfl rfl rfl rfl rfl rfl rfl ?_
  refine wlo 3 4 rfl rfl rfl (wo_run rfl rfl (run_extract rfl rfl rfl) ?_)
  refine wlo 4 5 rfl rfl rfl (wo_run rfl rfl (run_extract rfl rfl rfl) ?_)
  refine wla 5 6 rfl rfl rfl rfl rfl rfl rfl ?_
  refine wla 6 7 rfl rfl rfl rfl rfl rfl rfl ?_
  refine wl_end rfl ?_
  refine nm_sub [(4, _), (5, _)] ⟨rfl, rfl, trivial⟩ ?_
  refine nm_thn ?_
  refine ws_seqN AOpen_n5 AOpen_n6 rfl rfl rfl ?_
  refine ws_blockN AOpen_n7 0 rfl rfl rfl ?_
  refine ws_seqN AOpen_n8 AOpen_n9 rfl rfl rfl ?_
  refine ws_region rfl ?_
  refine wlm 0 1 rfl rfl rfl rfl rfl rfl rfl ?_
  refine wlo 1 2 rfl rfl rfl (wo_run rfl rfl (run_neq rfl rfl rfl) ?_)
  refine wla 2 3 rfl rfl rfl rfl rfl rfl rfl ?_
  refine wl_end rfl ?_
  refine nm_sub [(4, _), (5, _), (11, _)] ⟨rfl, rfl, rfl, trivial⟩ ?_
  refine nm_thn ?_
  refine ws_condN AOpen_n10 AOpen_n11 rfl rfl rfl rfl (fun hb11 => ?_) (fun hb11 => ?_)
  ·have hb11 := of_decide_eq_true hb11
   exfalso; omega
  ·have hb11 := of_decide_eq_false hb11
   refine ws_seqN AOpen_n14 AOpen_n15 rfl rfl rfl ?_
   refine ws_region rfl ?_
   refine wlm 0 1 rfl rfl rfl rfl rfl rfl rfl ?_
   refine wlo 1 2 rfl rfl rfl (wo_run rfl rfl (run_nilCheck rfl rfl) ?_)
   refine wlo 2 3 rfl rfl rfl (wo_run rfl rfl (run_fieldAddr rfl rfl Try.underlying114 rfl (ce51) (nf51)) ?_)
   refine wlo 3 4 rfl rfl rfl (wo_run rfl rfl (run_fieldAddr rfl rfl Try.underlying51 rfl (ce49) (nf49)) ?_)
   refine wlo 4 5 rfl rfl rfl (wo_run rfl rfl (run_load1 rfl rfl Try.underlying49 rfl (hsb8.cell S2.m rfl)) ?_)
   refine wlo 5 6 rfl rfl rfl (wo_run rfl rfl (run_len rfl rfl rfl rfl rfl rfl Try.underlying49) ?_)
   refine wlo 6 7 rfl rfl rfl (wo_run rfl rfl (run_gtr rfl rfl rfl) ?_)
   refine wla 7 8 rfl rfl rfl rfl rfl rfl rfl ?_
   refine wl_end rfl ?_
   refine nm_sub [(4, _), (15, _)] ⟨rfl, rfl, trivial⟩ ?_
   refine nm_thn ?_
   refine ws_condN AOpen_n16 AOpen_n17 rfl rfl rfl rfl (fun hb15 => ?_) (fun hb15 => ?_)
   ·have hb15 := of_decide_eq_true hb15
    refine ws_seqN AOpen_n18 AOpen_n19 rfl rfl rfl ?_
    refine ws_region rfl ?_
    refine wla 0 1 rfl rfl rfl rfl rfl rfl rfl ?_
    refine wla 1 2 rfl rfl rfl rfl rfl rfl rfl ?_
    refine wl_end rfl ?_
    refine nm_sub [(2, _), (3, _)] ⟨rfl, rfl, trivial⟩ ?_
    refine nm_thn ?_
    refine ws_ret hC [_, _] rfl rfl ⟨rfl, rfl, trivial⟩ ?_
    refine ⟨_, rfl, _, hle1, (S2.pick [] [] (by decide) trivial), ?_⟩
    have e0 : errK d 10 = 2 := by unfold errK; rw [if_pos hopn8, if_pos (by omega)]
    exact .inl ⟨by rw [e0]; decide, by rw [e0]; rfl⟩
   ·have hb15 := of_decide_eq_false hb15
    refine ws_skip rfl ?_
    refine nm_blk ?_
    refine nm_sub [(4, _)] ⟨rfl, trivial⟩ ?_
    refine nm_thn ?_
    refine ws_seqN AOpen_n20 AOpen_n21 rfl rfl rfl ?_
    refine ws_region rfl ?_
    refine wlm 0 1 rfl rfl rfl rfl rfl rfl rfl ?_
    refine wla 1 2 rfl rfl rfl rfl rfl rfl rfl ?_
    refine wla 2 3 rfl rfl rfl rfl rfl rfl rfl ?_
    refine wl_end rfl ?_
    refine nm_sub [(2, _), (3, _)] ⟨rfl, rfl, trivial⟩ ?_
    refine nm_thn ?_
    refine ws_ret hC [_, _] rfl rfl ⟨rfl, rfl, trivial⟩ ?_
    refine ⟨_, rfl, _, hle1, (S2.pick [] [] (by decide) trivial), ?_⟩
    have e0 : errK d 10 = 0 := by unfold errK; rw [if_pos hopn8, if_neg (by omega)]
    exact .inr ⟨e0, _, _, _, _, _, _, _, rfl, hsb8, hsc8, hsi8, hso8⟩
noncomputable def mostOf_n0 : Code := Try.f80.body.getD .skip
noncomputable def mostOf_n1 : Code := cL mostOf_n0
noncomputable def mostOf_n2 : Code := cR mostOf_n0
noncomputable def mostOf_n3 : Code := cL mostOf_n2
noncomputable def mostOf_n4 : Code := cR mostOf_n2
noncomputable def mostOf_n5 : Code := cL mostOf_n4
noncomputable def mostOf_n6 : Code := cR mostOf_n4
noncomputable def mostOf_n7 : Code := cL mostOf_n5
noncomputable def mostOf_n8 : Code := cR mostOf_n5
noncomputable def mostOf_n9 : Code := cL mostOf_n8
noncomputable def mostOf_n10 : Code := cL mostOf_n9
noncomputable def mostOf_n11 : Code := cL mostOf_n10
noncomputable def mostOf_n12 : Code := cR mostOf_n10
noncomputable def mostOf_n13 : Code := cL mostOf_n11
noncomputable def mostOf_n14 : Code := cR mostOf_n11
noncomputable def mostOf_n15 : Code := cL mostOf_n14
noncomputable def mostOf_n16 : Code := cR mostOf_n14
noncomputable def mostOf_n17 : Code := cL mostOf_n12
noncomputable def mostOf_n18 : Code := cR mostOf_n12
noncomputable def mostOf_n19 : Code := cL mostOf_n17
noncomputable def mostOf_n20 : Code := cL mostOf_n19
noncomputable def mostOf_n21 : Code := cR mostOf_n19
noncomputable def mostOf_n22 : Code := cL mostOf_n21
noncomputable def mostOf_n23 : Code := cR mostOf_n21
noncomputable def mostOf_n24 : Code := cL mostOf_n6
noncomputable def mostOf_n25 : Code := cR mostOf_n6
set_option maxRecDepth 10000 in
theorem mostOf_q {w : World} {M : Hp} {X : Fr} (l : List Int) {lA : Option Addr} {lc : Nat} (hl : RdA cdInt (M.un X.h) lA lc l) (hlb : ∀ i, i < l.length → 0 ≤ ga l i ∧ ga l i ≤ 100) (S : SH w M X []) : Cq Try.prog 80 [.slice lA l.length lc] w M X (fun u => u = .int .i64 (mostN l l.length)) := by
 unfold Cq
 have rmhl : l.length * 8 ≤ 140737488355328 := hl.room
 refine calls_in (b := mostOf_n0) Try.func80 rfl Try.ntmps80 rfl (fun C hC => ?_)
 refine ws_sub [(0, _)] ⟨rfl, trivial⟩ ?_
 refine ws_seqN mostOf_n1 mostOf_n2 rfl rfl rfl ?_
 refine ws_region rfl ?_
 refine wla 0 1 rfl rfl rfl rfl rfl rfl rfl ?_
 refine wl_end rfl ?_
 refine nm_sub [(0, _)] ⟨rfl, trivial⟩ ?_
 refine nm_thn ?_
 refine ws_seqN mostOf_n3 mostOf_n4 rfl rfl rfl ?_
 refine ws_region rfl ?_
 refine wla 0 1 rfl rfl rfl rfl rfl rfl rfl ?_
 refine wl_end rfl ?_
 refine nm_thn ?_
 refine ws_seqN mostOf_n5 mostOf_n6 rfl rfl rfl ?_
 refine ws_seqN mostOf_n7 mostOf_n8 rfl rfl rfl ?_
 refine ws_region rfl ?_
 refine wla 0 1 rfl rfl rfl rfl rfl rfl rfl ?_
 refine wl_end rfl ?_
 refine nm_thn ?_
 refine ws_blockN mostOf_n9 0 rfl rfl rfl ?_
 refine ws_loopE (fun mx_ ax_ wx_ => ∃ (k : Nat) (m : Int), mx_ = l.length - k ∧ Env 24 [(0, .slice lA l.length lc), (3, .int .i64 m), (4, .int .i64 (k : Int))] ax_ ∧ SH wx_ M X [] ∧ k ≤ l.length ∧ m = mostN l k ∧ (0 ≤ m ∧ m ≤ 101)) rfl ?_ ?_
 ·intro ax_ hax_
  refine ⟨_, ⟨0, _, rfl, hax_.sub ⟨rfl, rfl, rfl, trivial⟩, S.pick [] [] (by decide) trivial, ?hq1f0, ?hq1f1, ?hq1f2⟩⟩
  case hq1f0 => omega
  case hq1f1 => rfl
  case hq1f2 => omega
 ·rintro m1 a1 w1 ⟨k, m, rfl, he1, S1, hk, hm, hm2⟩
  clear S
  refine ws_in he1 (c := mostOf_n10) rfl ?_
  clear he1 a1
  have hlk := fun h => hlb k h
  refine ws_seqN mostOf_n11 mostOf_n12 rfl rfl rfl ?_
  refine ws_seqN mostOf_n13 mostOf_n14 rfl rfl rfl ?_
  refine ws_region rfl ?_
  refine wlm 0 1 rfl rfl rfl rfl rfl rfl rfl ?_
  refine wlm 1 2 rfl rfl rfl rfl rfl rfl rfl ?_
  refine wlo 2 3 rfl rfl rfl (wo_run rfl rfl (run_len rfl rfl rfl rfl rfl rfl Try.underlying36) ?_)
  refine wlo 3 4 rfl rfl rfl (wo_run rfl rfl (run_lss rfl rfl rfl) ?_)
  refine wl_end rfl ?_
  refine nm_sub [(0, _), (3, _), (4, _), (8, _)] ⟨rfl, rfl, rfl, rfl, trivial⟩ ?_
  refine nm_thn ?_
  refine ws_condN mostOf_n15 mostOf_n16 rfl rfl rfl rfl (fun hb8 => ?_) (fun hb8 => ?_)
  ·have hb8 := of_decide_eq_true hb8
   obtain ⟨hl1, hl2⟩ := hlk (by omega)
   refine ws_skip rfl ?_
   refine nm_sub [(0, _), (3, _), (4, _)] ⟨rfl, rfl, rfl, trivial⟩ ?_
   refine nm_thn ?_
   refine ws_seqN mostOf_n17 mostOf_n18 rfl rfl rfl ?_
   refine ws_blockN mostOf_n19 1 rfl rfl rfl ?_
   refine ws_seqN mostOf_n20 mostOf_n21 rfl rfl rfl ?_
   refine ws_region rfl ?_
   refine wlm 0 1 rfl rfl rfl rfl rfl rfl rfl ?_
   refine wlm 1 2 rfl rfl rfl rfl rfl rfl rfl ?_
   refine wlo 2 3 rfl rfl rfl (wo_run rfl rfl (run_indexM (C := cdInt) k rfl rfl rfl sl36 (by first | rfl | omega) hl (by first | omega | (simp only [lens]; omega))) ?_)
   refine wlo 3 4 rfl rfl rfl (wo_run rfl rfl (run_load1 rfl rfl Try.underlying3 rfl (hl.cell S1.um (i := k) (by first | omega | (simp only [lens]; omega)) 0 rfl rfl)) ?_)
   refine wlo 4 5 rfl rfl rfl (wo_run rfl rfl (run_add rfl rfl rfl (by first | omega | (simp only [lens]; omega))) ?_)
   refine wlm 5 6 rfl rfl rfl rfl rfl rfl rfl ?_
   refine wlo 6 7 rfl rfl rfl (wo_run rfl rfl (run_gtr rfl rfl rfl) ?_)
   refine wl_end rfl ?_
   refine nm_sub [(0, _), (3, _), (4, _), (17, _)] ⟨rfl, rfl, rfl, rfl, trivial⟩ ?_
   refine nm_thn ?_
   refine ws_condN mostOf_n22 mostOf_n23 rfl rfl rfl rfl (fun hb17 => ?_) (fun hb17 => ?_)
   ·have hb17 := of_decide_eq_true hb17
    refine ws_region rfl ?_
    refine wlm 0 1 rfl rfl rfl rfl rfl rfl rfl ?_
    refine wlm 1 2 rfl rfl rfl rfl rfl rfl rfl ?_
    refine wlo 2 3 rfl rfl rfl (wo_run rfl rfl (run_indexM (C := cdInt) k rfl rfl rfl sl36 (by first | rfl | omega) hl (by first | omega | (simp only [lens]; omega))) ?_)
    refine wlo 3 4 rfl rfl rfl (wo_run rfl rfl (run_load1 rfl rfl Try.underlying3 rfl (hl.cell S1.um (i := k) (by first | omega | (simp only [lens]; omega)) 0 rfl rfl)) ?_)
    refine wlo 4 5 rfl rfl rfl (wo_run rfl rfl (run_add rfl rfl rfl (by first | omega | (simp only [lens]; omega))) ?_)
    refine wla 5 6 rfl rfl rfl rfl rfl rfl rfl ?_
    refine wl_end rfl ?_
    refine nm_blk ?_
    refine nm_sub [(0, _), (3, _), (4, _)] ⟨rfl, rfl, rfl, trivial⟩ ?_
    refine nm_thn ?_
    refine ws_region rfl ?_
    refine wlm 0 1 rfl rfl rfl rfl rfl rfl rfl ?_
    refine wlo 1 2 rfl rfl rfl (wo_run rfl rfl (run_add rfl rfl rfl (by first | omega | (simp only [lens]; omega))) ?_)
    refine wla 2 3 rfl rfl rfl rfl rfl rfl rfl ?_
    refine wl_end rfl ?_
    refine nm_lp ?_
    intro ax_ hax_
    refine ⟨_, ?hq2m, ⟨k + 1, _, rfl, hax_.sub ⟨rfl, rfl, rfl, trivial⟩, S1.pick [] [] (by decide) trivial, ?hq2f0, ?hq2f1, ?hq2f2⟩⟩
    case hq2f0 => omega
    case hq2f1 => (rw [mostN, ← hm]; first | rw [if_pos (by omega)] | rw [if_neg (by omega)])
    case hq2f2 => (have := hlk (by omega); omega)
    case hq2m => omega
   ·have hb17 := of_decide_eq_false hb17
    refine ws_skip rfl ?_
    refine nm_blk ?_
    refine nm_sub [(0, _), (3, _), (4, _)] ⟨rfl, rfl, rfl, trivial⟩ ?_
    refine nm_thn ?_
    refine ws_region rfl ?_
    refine wlm 0 1 rfl rfl rfl rfl rfl rfl rfl ?_
    refine wlo 1 2 rfl rfl rfl (wo_run rfl rfl (run_add rfl rfl rfl (by first | omega | (simp only [lens]; omega))) ?_)
    refine wla 2 3 rfl rfl rfl rfl rfl rfl rfl ?_
    refine wl_end rfl ?_
    refine nm_lp ?_
    intro ax_ hax_
    refine ⟨_, ?hq3m, ⟨k + 1, _, rfl, hax_.sub ⟨rfl, rfl, rfl, trivial⟩, S1.pick [] [] (by decide) trivial, ?hq3f0, ?hq3f1, ?hq3f2⟩⟩
    case hq3f0 => omega
    case hq3f1 => (rw [mostN, ← hm]; first | rw [if_pos (by omega)] | rw [if_neg (by omega)])
    case hq3f2 => (have := hlk (by omega); omega)
    case hq3m => omega
  ·have hb8 := of_decide_eq_false hb8
   refine ws_exit rfl rfl ?_
   refine nm_sub [(3, _)] ⟨rfl, trivial⟩ ?_
   refine nm_thn ?_
   refine ws_seqN mostOf_n24 mostOf_n25 rfl rfl rfl ?_
   refine ws_region rfl ?_
   refine wlm 0 1 rfl rfl rfl rfl rfl rfl rfl ?_
   refine wla 1 2 rfl rfl rfl rfl rfl rfl rfl ?_
   refine wl_end rfl ?_
   refine nm_sub [(2, _)] ⟨rfl, trivial⟩ ?_
   refine nm_thn ?_
   refine ws_ret hC [_] rfl rfl ⟨rfl, trivial⟩ ?_
   exact ⟨_, rfl, (S1.pick [] [] (by decide) trivial), (by obtain rfl : k = l.length := (by omega); rw [hm]; rfl)⟩
noncomputable def few_n0 : Code := Try.f35.body.getD .skip
noncomputable def few_n1 : Code := cL few_n0
noncomputable def few_n2 : Code := cR few_n0
noncomputable def few_n3 : Code := cL few_n2
noncomputable def few_n4 : Code := cR few_n2
noncomputable def few_n5 : Code := cL few_n4
noncomputable def few_n6 : Code := cR few_n4
noncomputable def few_n7 : Code := cL few_n5
noncomputable def few_n8 : Code := cR few_n5
noncomputable def few_n9 : Code := cL few_n8
noncomputable def few_n10 : Code := cR few_n8
noncomputable def few_n11 : Code := cL few_n6
noncomputable def few_n12 : Code := cR few_n6
set_option maxRecDepth 10000 in
theorem few_t {w : World} {M : Hp} {X : Fr} (d : Dg) {dcrsA : Option Addr} {dcrsc : Nat} (m : Nat) (hdcrs : RdA cdCr (M.un X.h) dcrsA dcrsc d.crs) (S : SH w M X []) : Ct Try.prog 35 [.agg [.slice dcrsA d.crs.length dcrsc, .int .i64 d.loops].toArray, .int .i64 (m : Int)] w M X (fun u _ => u = .int .i64 (errK d m)) := by
 unfold Ct
 have rmhdcrs : d.crs.length * 40 ≤ 140737488355328 := hdcrs.room
 refine calls_in (b := few_n0) Try.func35 rfl Try.ntmps35 rfl (fun C hC => ?_)
 refine ws_sub [(0, _), (1, _)] ⟨rfl, rfl, trivial⟩ ?_
 refine ws_seqN few_n1 few_n2 rfl rfl rfl ?_
 refine ws_region rfl ?_
 refine wlo 0 1 rfl rfl rfl (wo_box (l := [_, _]) rfl rfl rfl rfl rfl S ?_)
 intro gb1 w1 S1; clear S
 refine wla 1 2 rfl rfl rfl rfl rfl rfl rfl ?_
 refine wl_end rfl ?_
 refine nm_sub [(1, _), (2, _)] ⟨rfl, rfl, trivial⟩ ?_
 refine nm_thn ?_
 refine ws_seqN few_n3 few_n4 rfl rfl rfl ?_
 refine ws_region rfl ?_
 refine wlo 0 1 rfl rfl rfl (wo_run rfl rfl (run_loadN (us := [_, _]) rfl rfl Try.underlying51 rfl sz51 (S1.boxcs (i := 0) rfl ⟨rfl, rfl, trivial⟩)) ?_)
 refine wlo 1 2 rfl rfl rfl (wo_ct rfl rfl rfl rfl rfl rfl rfl cf42 S1 (PlanarMay_t d (hdcrs.mono S1.un_XH) S1.lend) ?_)
 intro vw2 w2 M1 hle1 S2 hRw2; clear S1
 replace hdcrs := hdcrs.mono (Hp.un_mono hle1 S2.mx)
 obtain rfl := hRw2
 refine wla 2 3 rfl rfl rfl rfl rfl rfl rfl ?_
 refine wl_end rfl ?_
 refine nm_sub [(1, _), (2, _), (5, _)] ⟨rfl, rfl, rfl, trivial⟩ ?_
 refine nm_thn ?_
 refine ws_seqN few_n5 few_n6 rfl rfl rfl ?_
 refine ws_seqN few_n7 few_n8 rfl rfl rfl ?_
 refine ws_region rfl ?_
 refine wlm 0 1 rfl rfl rfl rfl rfl rfl rfl ?_
 refine wlo 1 2 rfl rfl rfl (wo_run rfl rfl (run_eql rfl rfl rfl) ?_)
 refine wlm 2 3 rfl rfl rfl rfl rfl rfl rfl ?_
 refine wl_split (t := 10) rfl (fun hg10 => ?_) (fun hg10 => ?_)
 ·have hg10 := of_decide_eq_true hg10
  refine wl_opG (k := 3) (k' := 4) rfl rfl ⟨_, _, _, rfl, rfl, rfl, rfl⟩ rfl (wo_run rfl rfl (run_fieldAddr rfl rfl Try.underlying51 rfl (ce49) (nf49)) ?_)
  refine wl_opG (k := 4) (k' := 5) rfl rfl ⟨_, _, _, rfl, rfl, rfl, rfl⟩ rfl (wo_run rfl rfl (run_load1 rfl rfl Try.underlying49 rfl (S2.boxc (i := 0) rfl rfl)) ?_)
  refine wl_opG (k := 5) (k' := 6) rfl rfl ⟨_, _, _, rfl, rfl, rfl, rfl⟩ rfl (wo_run rfl rfl (run_len rfl rfl rfl rfl rfl rfl Try.underlying49) ?_)
  refine wl_opG (k := 6) (k' := 7) rfl rfl ⟨_, _, _, rfl, rfl, rfl, rfl⟩ rfl (wo_run rfl rfl (run_move rfl rfl) ?_)
  refine wl_opG (k := 7) (k' := 8) rfl rfl ⟨_, _, _, rfl, rfl, rfl, rfl⟩ rfl (wo_run rfl rfl (run_gtr rfl rfl rfl) ?_)
  refine wlo 8 9 rfl rfl rfl (wo_run rfl rfl (run_pickT rfl rfl rfl) ?_)
  refine wl_end rfl ?_
  refine nm_sub [(5, _), (16, _)] ⟨rfl, rfl, trivial⟩ ?_
  refine nm_thn ?_
  refine ws_condN few_n9 few_n10 rfl rfl rfl rfl (fun hb16 => ?_) (fun hb16 => ?_)
  ·have hb16 := of_decide_eq_true hb16
   refine ws_region rfl ?_
   refine wla 0 1 rfl rfl rfl rfl rfl rfl rfl ?_
   refine wl_end rfl ?_
   refine nm_sub [(5, _)] ⟨rfl, trivial⟩ ?_
   refine nm_thn ?_
   refine ws_seqN few_n11 few_n12 rfl rfl rfl ?_
   refine ws_region rfl ?_
   refine wlm 0 1 rfl rfl rfl rfl rfl rfl rfl ?_
   refine wla 1 2 rfl rfl rfl rfl rfl rfl rfl ?_
   refine wl_end rfl ?_
   refine nm_sub [(4, _)] ⟨rfl, trivial⟩ ?_
   refine nm_thn ?_
   refine ws_ret hC [_] rfl rfl ⟨rfl, trivial⟩ ?_
   refine ⟨_, rfl, _, hle1, (S2.pick [] [] (by decide) trivial), ?_⟩
   show Value.int _ _ = _
   refine congrArg (Value.int .i64) ?_
   unfold errK
   first | (rw [if_pos (by first | omega | simp_all), if_pos (by omega)]) | (rw [if_pos (by first | omega | simp_all), if_neg (by omega)]; first | rfl | omega) | (rw [if_neg (by first | omega | simp_all)])
  ·have hb16 := of_decide_eq_false hb16
   refine ws_skip rfl ?_
   refine nm_sub [(5, _)] ⟨rfl, trivial⟩ ?_
   refine nm_thn ?_
   refine ws_seqN few_n11 few_n12 rfl rfl rfl ?_
   refine ws_region rfl ?_
   refine wlm 0 1 rfl rfl rfl rfl rfl rfl rfl ?_
   refine wla 1 2 rfl rfl rfl rfl rfl rfl rfl ?_
   refine wl_end rfl ?_
   refine nm_sub [(4, _)] ⟨rfl, trivial⟩ ?_
   refine nm_thn ?_
   refine ws_ret hC [_] rfl rfl ⟨rfl, trivial⟩ ?_
   refine ⟨_, rfl, _, hle1, (S2.pick [] [] (by decide) trivial), ?_⟩
   show Value.int _ _ = _
   refine congrArg (Value.int .i64) ?_
   unfold errK
   first | (rw [if_pos (by first | omega | simp_all), if_pos (by omega)]) | (rw [if_pos (by first | omega | simp_all), if_neg (by omega)]; first | rfl | omega) | (rw [if_neg (by first | omega | simp_all)])
 ·have hg10 := of_decide_eq_false hg10
  refine wl_no (k := 3) (k' := 4) (d := 11) rfl rfl ⟨_, _, _, rfl, rfl, rfl, rfl⟩ rfl rfl ?_
  refine wl_no (k := 4) (k' := 5) (d := 12) rfl rfl ⟨_, _, _, rfl, rfl, rfl, rfl⟩ rfl rfl ?_
  refine wl_no (k := 5) (k' := 6) (d := 13) rfl rfl ⟨_, _, _, rfl, rfl, rfl, rfl⟩ rfl rfl ?_
  refine wl_no (k := 6) (k' := 7) (d := 14) rfl rfl ⟨_, _, _, rfl, rfl, rfl, rfl⟩ rfl rfl ?_
  refine wl_no (k := 7) (k' := 8) (d := 15) rfl rfl ⟨_, _, _, rfl, rfl, rfl, rfl⟩ rfl rfl ?_
  refine wlo 8 9 rfl rfl rfl (wo_run rfl rfl (run_pickF rfl rfl rfl) ?_)
  refine wl_end rfl ?_
  refine nm_sub [(5, _), (16, _)] ⟨rfl, rfl, trivial⟩ ?_
  refine nm_thn ?_
  refine ws_condFN few_n10 rfl rfl rfl ?_
  refine ws_skip rfl ?_
  refine nm_sub [(5, _)] ⟨rfl, trivial⟩ ?_
  refine nm_thn ?_
  refine ws_seqN few_n11 few_n12 rfl rfl rfl ?_
  refine ws_region rfl ?_
  refine wlm 0 1 rfl rfl rfl rfl rfl rfl rfl ?_
  refine wla 1 2 rfl rfl rfl rfl rfl rfl rfl ?_
  refine wl_end rfl ?_
  refine nm_sub [(4, _)] ⟨rfl, trivial⟩ ?_
  refine nm_thn ?_
  refine ws_ret hC [_] rfl rfl ⟨rfl, trivial⟩ ?_
  refine ⟨_, rfl, _, hle1, (S2.pick [] [] (by decide) trivial), ?_⟩
  show Value.int _ _ = _
  refine congrArg (Value.int .i64) ?_
  unfold errK
  first | (rw [if_pos (by first | omega | simp_all), if_pos (by omega)]) | (rw [if_pos (by first | omega | simp_all), if_neg (by omega)]; first | rfl | omega) | (rw [if_neg (by first | omega | simp_all)])
end Go.Proofs.Ytkcighnochjlgaa
namespace Go.Proofs.Ytkcighnochjlgaa
open Go.ChangeShapes Go.WideShapes Go.ChangeAt Go.RowKit
def atX (a : List Tm) (t : Int) (i : Nat) : Prop := Int.tmod (ga a i).e 2 ≠ 0 ∧ t = -1
instance (a : List Tm) (t : Int) (i : Nat) : Decidable (atX a t i) := by unfold atX; infer_instance
theorem atN_pos {a : List Tm} {t : Int} {i : Nat} (h : atX a t i) : atN a t (i + 1) = wr (atN a t i - (ga a i).c) := by rw [atN]; exact if_pos h
theorem atN_neg {a : List Tm} {t : Int} {i : Nat} (h : ¬ atX a t i) : atN a t (i + 1) = wr (atN a t i + (ga a i).c) := by rw [atN]; exact if_neg h
noncomputable def AtOf_n0 : Code := Try.f25.body.getD .skip
noncomputable def AtOf_n1 : Code := cL AtOf_n0
noncomputable def AtOf_n2 : Code := cR AtOf_n0
noncomputable def AtOf_n3 : Code := cL AtOf_n2
noncomputable def AtOf_n4 : Code := cR AtOf_n2
noncomputable def AtOf_n5 : Code := cL AtOf_n4
noncomputable def AtOf_n6 : Code := cR AtOf_n4
noncomputable def AtOf_n7 : Code := cL AtOf_n5
noncomputable def AtOf_n8 : Code := cR AtOf_n5
noncomputable def AtOf_n9 : Code := cL AtOf_n8
noncomputable def AtOf_n10 : Code := cL AtOf_n9
noncomputable def AtOf_n11 : Code := cL AtOf_n10
noncomputable def AtOf_n12 : Code := cR AtOf_n10
noncomputable def AtOf_n13 : Code := cL AtOf_n11
noncomputable def AtOf_n14 : Code := cR AtOf_n11
noncomputable def AtOf_n15 : Code := cL AtOf_n14
noncomputable def AtOf_n16 : Code := cR AtOf_n14
noncomputable def AtOf_n17 : Code := cL AtOf_n12
noncomputable def AtOf_n18 : Code := cR AtOf_n12
noncomputable def AtOf_n19 : Code := cL AtOf_n17
noncomputable def AtOf_n20 : Code := cL AtOf_n19
noncomputable def AtOf_n21 : Code := cR AtOf_n19
noncomputable def AtOf_n22 : Code := cL AtOf_n21
noncomputable def AtOf_n23 : Code := cR AtOf_n21
noncomputable def AtOf_n24 : Code := cL AtOf_n23
noncomputable def AtOf_n25 : Code := cR AtOf_n23
noncomputable def AtOf_n26 : Code := cL AtOf_n6
noncomputable def AtOf_n27 : Code := cR AtOf_n6
set_option maxRecDepth 10000 in
theorem AtOf_q {w : World} {M : Hp} {X : Fr} (a : List Tm) {aA : Option Addr} {ac : Nat} (t : Int) (ha : RdA cdTm (M.un X.h) aA ac a) (S : SH w M X []) : Cq Try.prog 25 [.slice aA a.length ac, .int .i64 t] w M X (fun u => u = .int .i64 (atN a t a.length)) := by
 unfold Cq
 have rmha : a.length * 16 ≤ 140737488355328 := ha.room
 refine calls_in (b := AtOf_n0) Try.func25 rfl Try.ntmps25 rfl (fun C hC => ?_)
 refine ws_sub [(0, _), (1, _)] ⟨rfl, rfl, trivial⟩ ?_
 refine ws_seqN AtOf_n1 AtOf_n2 rfl rfl rfl ?_
 refine ws_region rfl ?_
 refine wla 0 1 rfl rfl rfl rfl rfl rfl rfl ?_
 refine wl_end rfl ?_
 refine nm_sub [(0, _), (1, _)] ⟨rfl, rfl, trivial⟩ ?_
 refine nm_thn ?_
 refine ws_seqN AtOf_n3 AtOf_n4 rfl rfl rfl ?_
 refine ws_region rfl ?_
 refine wla 0 1 rfl rfl rfl rfl rfl rfl rfl ?_
 refine wl_end rfl ?_
 refine nm_thn ?_
 refine ws_seqN AtOf_n5 AtOf_n6 rfl rfl rfl ?_
 refine ws_seqN AtOf_n7 AtOf_n8 rfl rfl rfl ?_
 refine ws_region rfl ?_
 refine wla 0 1 rfl rfl rfl rfl rfl rfl rfl ?_
 refine wl_end rfl ?_
 refine nm_thn ?_
 refine ws_blockN AtOf_n9 0 rfl rfl rfl ?_
 refine ws_loopE (fun mx_ ax_ wx_ => ∃ (i : Nat), mx_ = a.length - i ∧ Env 41 [(0, .slice aA a.length ac), (1, .int .i64 t), (5, .int .i64 (atN a t i)), (6, .int .i64 (i : Int))] ax_ ∧ SH wx_ M X [] ∧ i ≤ a.length) rfl ?_ ?_
 ·intro ax_ hax_
  refine ⟨_, ⟨0, rfl, hax_.sub ⟨rfl, rfl, rfl, rfl, trivial⟩, S.pick [] [] (by decide) trivial, ?hq1f0⟩⟩
  case hq1f0 => omega
 ·rintro m1 a1 w1 ⟨i, rfl, he1, S1, hi⟩
  clear S
  refine ws_in he1 (c := AtOf_n10) rfl ?_
  clear he1 a1
  refine ws_seqN AtOf_n11 AtOf_n12 rfl rfl rfl ?_
  refine ws_seqN AtOf_n13 AtOf_n14 rfl rfl rfl ?_
  refine ws_region rfl ?_
  refine wlm 0 1 rfl rfl rfl rfl rfl rfl rfl ?_
  refine wlm 1 2 rfl rfl rfl rfl rfl rfl rfl ?_
  refine wlo 2 3 rfl rfl rfl (wo_run rfl rfl (run_len rfl rfl rfl rfl rfl rfl Try.underlying22) ?_)
  refine wlo 3 4 rfl rfl rfl (wo_run rfl rfl (run_lss rfl rfl rfl) ?_)
  refine wl_end rfl ?_
  refine nm_sub [(0, _), (1, _), (5, _), (6, _), (11, _)] ⟨rfl, rfl, rfl, rfl, rfl, trivial⟩ ?_
  refine nm_thn ?_
  refine ws_condN AtOf_n15 AtOf_n16 rfl rfl rfl rfl (fun hb11 => ?_) (fun hb11 => ?_)
  ·have hb11 := of_decide_eq_true hb11
   refine ws_skip rfl ?_
   refine nm_sub [(0, _), (1, _), (5, _), (6, _)] ⟨rfl, rfl, rfl, rfl, trivial⟩ ?_
   refine nm_thn ?_
   refine ws_seqN AtOf_n17 AtOf_n18 rfl rfl rfl ?_
   refine ws_blockN AtOf_n19 1 rfl rfl rfl ?_
   refine ws_seqN AtOf_n20 AtOf_n21 rfl rfl rfl ?_
   refine ws_region rfl ?_
   refine wlm 0 1 rfl rfl rfl rfl rfl rfl rfl ?_
   refine wlm 1 2 rfl rfl rfl rfl rfl rfl rfl ?_
   refine wlo 2 3 rfl rfl rfl (wo_run rfl rfl (run_indexM (C := cdTm) i rfl rfl rfl sl22 (by first | rfl | omega) ha (by first | omega | (simp only [lens]; omega))) ?_)
   refine wlo 3 4 rfl rfl rfl (wo_run rfl rfl (run_fieldAddr rfl rfl Try.underlying89 rfl (ce3) (nf3)) ?_)
   refine wlo 4 5 rfl rfl rfl (wo_run rfl rfl (run_load1 rfl rfl Try.underlying3 rfl (ha.cell S1.um (i := i) (by first | omega | (simp only [lens]; omega)) 0 rfl rfl)) ?_)
   refine wlo 5 6 rfl rfl rfl (wo_run rfl rfl (run_trem rfl rfl rfl (by decide)) ?_)
   refine wlo 6 7 rfl rfl rfl (wo_run rfl rfl (run_neq rfl rfl rfl) ?_)
   refine wla 7 8 rfl rfl rfl rfl rfl rfl rfl ?_
   refine wl_end rfl ?_
   refine nm_sub [(0, _), (1, _), (5, _), (6, _), (7, _)] ⟨rfl, rfl, rfl, rfl, rfl, trivial⟩ ?_
   refine nm_thn ?_
   refine ws_seqN AtOf_n22 AtOf_n23 rfl rfl rfl ?_
   refine ws_region rfl ?_
   refine wlm 0 1 rfl rfl rfl rfl rfl rfl rfl ?_
   refine wlm 1 2 rfl rfl rfl rfl rfl rfl rfl ?_
   refine wl_split (t := 22) rfl (fun hg22 => ?_) (fun hg22 => ?_)
   ·have hg22 := of_decide_eq_true hg22
    refine wl_opG (k := 2) (k' := 3) rfl rfl ⟨_, _, _, rfl, rfl, rfl, rfl⟩ rfl (wo_run rfl rfl (run_move rfl rfl) ?_)
    refine wl_opG (k := 3) (k' := 4) rfl rfl ⟨_, _, _, rfl, rfl, rfl, rfl⟩ rfl (wo_run rfl rfl (run_eql rfl rfl rfl) ?_)
    refine wlo 4 5 rfl rfl rfl (wo_run rfl rfl (run_pickT rfl rfl rfl) ?_)
    refine wl_end rfl ?_
    refine nm_sub [(0, _), (1, _), (5, _), (6, _), (25, _)] ⟨rfl, rfl, rfl, rfl, rfl, trivial⟩ ?_
    refine nm_thn ?_
    refine ws_condN AtOf_n24 AtOf_n25 rfl rfl rfl rfl (fun hb25 => ?_) (fun hb25 => ?_)
    ·have hb25 := of_decide_eq_true hb25
     refine ws_region rfl ?_
     refine wlm 0 1 rfl rfl rfl rfl rfl rfl rfl ?_
     refine wlm 1 2 rfl rfl rfl rfl rfl rfl rfl ?_
     refine wlm 2 3 rfl rfl rfl rfl rfl rfl rfl ?_
     refine wlo 3 4 rfl rfl rfl (wo_run rfl rfl (run_indexM (C := cdTm) i rfl rfl rfl sl22 (by first | rfl | omega) ha (by first | omega | (simp only [lens]; omega))) ?_)
     refine wlo 4 5 rfl rfl rfl (wo_run rfl rfl (run_fieldAddr rfl rfl Try.underlying89 rfl (ce3) (nf3)) ?_)
     refine wlo 5 6 rfl rfl rfl (wo_run rfl rfl (run_load1 rfl rfl Try.underlying3 rfl (ha.cell S1.um (i := i) (by first | omega | (simp only [lens]; omega)) 1 rfl rfl)) ?_)
     refine wlo 6 7 rfl rfl rfl (wo_run rfl rfl (run_subW rfl rfl rfl) ?_)
     refine wla 7 8 rfl rfl rfl rfl rfl rfl rfl ?_
     refine wl_end rfl ?_
     refine nm_blk ?_
     refine nm_sub [(0, _), (1, _), (5, _), (6, _)] ⟨rfl, rfl, rfl, rfl, trivial⟩ ?_
     refine nm_thn ?_
     refine ws_eq 5 (.int .i64 (atN a t (i + 1))) rfl (int_eq (by exact (atN_pos (by unfold atX; first | omega | (simp_all; done))).symm)) ?_
     refine ws_region rfl ?_
     refine wlm 0 1 rfl rfl rfl rfl rfl rfl rfl ?_
     refine wlo 1 2 rfl rfl rfl (wo_run rfl rfl (run_add rfl rfl rfl (by first | omega | (simp only [lens]; omega))) ?_)
     refine wla 2 3 rfl rfl rfl rfl rfl rfl rfl ?_
     refine wl_end rfl ?_
     refine nm_lp ?_
     intro ax_ hax_
     refine ⟨_, ?hq2m, ⟨i + 1, rfl, hax_.sub ⟨rfl, rfl, rfl, rfl, trivial⟩, S1.pick [] [] (by decide) trivial, ?hq2f0⟩⟩
     case hq2f0 => omega
     case hq2m => omega
    ·have hb25 := of_decide_eq_false hb25
     refine ws_region rfl ?_
     refine wlm 0 1 rfl rfl rfl rfl rfl rfl rfl ?_
     refine wlm 1 2 rfl rfl rfl rfl rfl rfl rfl ?_
     refine wlm 2 3 rfl rfl rfl rfl rfl rfl rfl ?_
     refine wlo 3 4 rfl rfl rfl (wo_run rfl rfl (run_indexM (C := cdTm) i rfl rfl rfl sl22 (by first | rfl | omega) ha (by first | omega | (simp only [lens]; omega))) ?_)
     refine wlo 4 5 rfl rfl rfl (wo_run rfl rfl (run_fieldAddr rfl rfl Try.underlying89 rfl (ce3) (nf3)) ?_)
     refine wlo 5 6 rfl rfl rfl (wo_run rfl rfl (run_load1 rfl rfl Try.underlying3 rfl (ha.cell S1.um (i := i) (by first | omega | (simp only [lens]; omega)) 1 rfl rfl)) ?_)
     refine wlo 6 7 rfl rfl rfl (wo_run rfl rfl (run_addW rfl rfl rfl) ?_)
     refine wla 7 8 rfl rfl rfl rfl rfl rfl rfl ?_
     refine wl_end rfl ?_
     refine nm_blk ?_
     refine nm_sub [(0, _), (1, _), (5, _), (6, _)] ⟨rfl, rfl, rfl, rfl, trivial⟩ ?_
     refine nm_thn ?_
     refine ws_eq 5 (.int .i64 (atN a t (i + 1))) rfl (int_eq (by exact (atN_neg (by unfold atX; first | omega | (simp_all; done))).symm)) ?_
     refine ws_region rfl ?_
     refine wlm 0 1 rfl rfl rfl rfl rfl rfl rfl ?_
     refine wlo 1 2 rfl rfl rfl (wo_run rfl rfl (run_add rfl rfl rfl (by first | omega | (simp only [lens]; omega))) ?_)
     refine wla 2 3 rfl rfl rfl rfl rfl rfl rfl ?_
     refine wl_end rfl ?_
     refine nm_lp ?_
     intro ax_ hax_
     refine ⟨_, ?hq3m, ⟨i + 1, rfl, hax_.sub ⟨rfl, rfl, rfl, rfl, trivial⟩, S1.pick [] [] (by decide) trivial, ?hq3f0⟩⟩
     case hq3f0 => omega
     case hq3m => omega
   ·have hg22 := of_decide_eq_false hg22
    refine wl_no (k := 2) (k' := 3) (d := 23) rfl rfl ⟨_, _, _, rfl, rfl, rfl, rfl⟩ rfl rfl ?_
    refine wl_no (k := 3) (k' := 4) (d := 24) rfl rfl ⟨_, _, _, rfl, rfl, rfl, rfl⟩ rfl rfl ?_
    refine wlo 4 5 rfl rfl rfl (wo_run rfl rfl (run_pickF rfl rfl rfl) ?_)
    refine wl_end rfl ?_
    refine nm_sub [(0, _), (1, _), (5, _), (6, _), (25, _)] ⟨rfl, rfl, rfl, rfl, rfl, trivial⟩ ?_
    refine nm_thn ?_
    refine ws_condFN AtOf_n25 rfl rfl rfl ?_
    refine ws_region rfl ?_
    refine wlm 0 1 rfl rfl rfl rfl rfl rfl rfl ?_
    refine wlm 1 2 rfl rfl rfl rfl rfl rfl rfl ?_
    refine wlm 2 3 rfl rfl rfl rfl rfl rfl rfl ?_
    refine wlo 3 4 rfl rfl rfl (wo_run rfl rfl (run_indexM (C := cdTm) i rfl rfl rfl sl22 (by first | rfl | omega) ha (by first | omega | (simp only [lens]; omega))) ?_)
    refine wlo 4 5 rfl rfl rfl (wo_run rfl rfl (run_fieldAddr rfl rfl Try.underlying89 rfl (ce3) (nf3)) ?_)
    refine wlo 5 6 rfl rfl rfl (wo_run rfl rfl (run_load1 rfl rfl Try.underlying3 rfl (ha.cell S1.um (i := i) (by first | omega | (simp only [lens]; omega)) 1 rfl rfl)) ?_)
    refine wlo 6 7 rfl rfl rfl (wo_run rfl rfl (run_addW rfl rfl rfl) ?_)
    refine wla 7 8 rfl rfl rfl rfl rfl rfl rfl ?_
    refine wl_end rfl ?_
    refine nm_blk ?_
    refine nm_sub [(0, _), (1, _), (5, _), (6, _)] ⟨rfl, rfl, rfl, rfl, trivial⟩ ?_
    refine nm_thn ?_
    refine ws_eq 5 (.int .i64 (atN a t (i + 1))) rfl (int_eq (by exact (atN_neg (by unfold atX; first | omega | (simp_all; done))).symm)) ?_
    refine ws_region rfl ?_
    refine wlm 0 1 rfl rfl rfl rfl rfl rfl rfl ?_
    refine wlo 1 2 rfl rfl rfl (wo_run rfl rfl (run_add rfl rfl rfl (by first | omega | (simp only [lens]; omega))) ?_)
    refine wla 2 3 rfl rfl rfl rfl rfl rfl rfl ?_
    refine wl_end rfl ?_
    refine nm_lp ?_
    intro ax_ hax_
    refine ⟨_, ?hq4m, ⟨i + 1, rfl, hax_.sub ⟨rfl, rfl, rfl, rfl, trivial⟩, S1.pick [] [] (by decide) trivial, ?hq4f0⟩⟩
    case hq4f0 => omega
    case hq4m => omega
  ·have hb11 := of_decide_eq_false hb11
   refine ws_exit rfl rfl ?_
   refine nm_sub [(5, _)] ⟨rfl, trivial⟩ ?_
   refine nm_thn ?_
   refine ws_seqN AtOf_n26 AtOf_n27 rfl rfl rfl ?_
   obtain rfl : i = a.length := by omega
   refine ws_region rfl ?_
   refine wlm 0 1 rfl rfl rfl rfl rfl rfl rfl ?_
   refine wla 1 2 rfl rfl rfl rfl rfl rfl rfl ?_
   refine wl_end rfl ?_
   refine nm_sub [(4, _)] ⟨rfl, trivial⟩ ?_
   refine nm_thn ?_
   refine ws_ret hC [_] rfl rfl ⟨rfl, trivial⟩ ?_
   exact ⟨_, rfl, (S1.pick [] [] (by decide) trivial), rfl⟩
noncomputable def Normal_n0 : Code := Try.f64.body.getD .skip
noncomputable def Normal_n1 : Code := cL Normal_n0
noncomputable def Normal_n2 : Code := cR Normal_n0
noncomputable def Normal_n3 : Code := cL Normal_n2
noncomputable def Normal_n4 : Code := cR Normal_n2
noncomputable def Normal_n5 : Code := cL Normal_n3
noncomputable def Normal_n6 : Code := cR Normal_n3
noncomputable def Normal_n7 : Code := cL Normal_n6
noncomputable def Normal_n8 : Code := cR Normal_n6
noncomputable def Normal_n9 : Code := cL Normal_n7
noncomputable def Normal_n10 : Code := cR Normal_n7
noncomputable def Normal_n11 : Code := cL Normal_n4
noncomputable def Normal_n12 : Code := cR Normal_n4
noncomputable def Normal_n13 : Code := cL Normal_n12
noncomputable def Normal_n14 : Code := cR Normal_n12
noncomputable def Normal_n15 : Code := cL Normal_n13
noncomputable def Normal_n16 : Code := cR Normal_n13
noncomputable def Normal_n17 : Code := cL Normal_n16
noncomputable def Normal_n18 : Code := cR Normal_n16
noncomputable def Normal_n19 : Code := cL Normal_n14
noncomputable def Normal_n20 : Code := cR Normal_n14
set_option maxRecDepth 10000 in
theorem Normal_t {w : World} {M : Hp} {X : Fr} (a : List Tm) {aA : Option Addr} {ac : Nat} (ha : RdA cdTm M aA ac a) (B : Nat) (hca : Can a) (hba : Bd a B) (hB : B + B ≤ 1099511627776) (S : SH w M X []) : Ct Try.prog 64 [.slice aA a.length ac] w M X (PT (B + B) (unitP a)) := by
 unfold Ct
 have rmha : a.length * 16 ≤ 140737488355328 := ha.room
 refine calls_in (b := Normal_n0) Try.func64 rfl Try.ntmps64 rfl (fun C hC => ?_)
 refine ws_sub [(0, _)] ⟨rfl, trivial⟩ ?_
 refine ws_seqN Normal_n1 Normal_n2 rfl rfl rfl ?_
 refine ws_region rfl ?_
 refine wla 0 1 rfl rfl rfl rfl rfl rfl rfl ?_
 refine wl_end rfl ?_
 refine nm_sub [(0, _)] ⟨rfl, trivial⟩ ?_
 refine nm_thn ?_
 refine ws_seqN Normal_n3 Normal_n4 rfl rfl rfl ?_
 refine ws_seqN Normal_n5 Normal_n6 rfl rfl rfl ?_
 refine ws_region rfl ?_
 refine wlm 0 1 rfl rfl rfl rfl rfl rfl rfl ?_
 refine wlo 1 2 rfl rfl rfl (wo_run rfl rfl (run_len rfl rfl rfl rfl rfl rfl Try.underlying22) ?_)
 refine wlo 2 3 rfl rfl rfl (wo_run rfl rfl (run_eql rfl rfl rfl) ?_)
 refine wl_end rfl ?_
 refine nm_sub [(0, _), (6, _)] ⟨rfl, rfl, trivial⟩ ?_
 refine nm_thn ?_
 refine ws_condN Normal_n7 Normal_n8 rfl rfl rfl rfl (fun hb6 => ?_) (fun hb6 => ?_)
 ·have hb6 := of_decide_eq_true hb6
  refine ws_seqN Normal_n9 Normal_n10 rfl rfl rfl ?_
  refine ws_region rfl ?_
  refine wla 0 1 rfl rfl rfl rfl rfl rfl rfl ?_
  refine wl_end rfl ?_
  refine nm_sub [(2, _)] ⟨rfl, trivial⟩ ?_
  refine nm_thn ?_
  refine ws_ret hC [_] rfl rfl ⟨rfl, trivial⟩ ?_
  refine ⟨_, rfl, _, Hp.le_refl _, (S.pick [] [] (by decide) trivial), ?_⟩
  obtain rfl : a = [] := List.eq_nil_of_length_eq_zero (by omega)
  exact ⟨none, 0, [], rfl, RdA.nil_, Can.nil_, fun t ht => by simp at ht, (Pol.zero_mul _).symm⟩
 ·have hb6 := of_decide_eq_false hb6
  refine ws_skip rfl ?_
  refine nm_sub [(0, _)] ⟨rfl, trivial⟩ ?_
  refine nm_thn ?_
  refine ws_seqN Normal_n11 Normal_n12 rfl rfl rfl ?_
  refine ws_region rfl ?_
  refine wla 0 1 rfl rfl rfl rfl rfl rfl rfl ?_
  refine wl_end rfl ?_
  refine nm_thn ?_
  refine ws_seqN Normal_n13 Normal_n14 rfl rfl rfl ?_
  refine ws_seqN Normal_n15 Normal_n16 rfl rfl rfl ?_
  refine ws_region rfl ?_
  refine wlm 0 1 rfl rfl rfl rfl rfl rfl rfl ?_
  refine wlo 1 2 rfl rfl rfl (wo_run rfl rfl (run_indexM (C := cdTm) 0 rfl rfl rfl sl22 (by first | rfl | omega) ha (by first | omega | (simp only [lens]; omega))) ?_)
  refine wlo 2 3 rfl rfl rfl (wo_run rfl rfl (run_fieldAddr rfl rfl Try.underlying89 rfl (ce3) (nf3)) ?_)
  refine wlo 3 4 rfl rfl rfl (wo_run rfl rfl (run_load1 rfl rfl Try.underlying3 rfl (ha.cell S.m (i := 0) (by first | omega | (simp only [lens]; omega)) 1 rfl rfl)) ?_)
  refine wlo 4 5 rfl rfl rfl (wo_run rfl rfl (run_lss rfl rfl rfl) ?_)
  refine wl_end rfl ?_
  refine nm_sub [(0, _), (3, _), (11, _)] ⟨rfl, rfl, rfl, trivial⟩ ?_
  refine nm_thn ?_
  refine ws_condN Normal_n17 Normal_n18 rfl rfl rfl rfl (fun hb11 => ?_) (fun hb11 => ?_)
  ·have hb11 := of_decide_eq_true hb11
   refine ws_region rfl ?_
   refine wla 0 1 rfl rfl rfl rfl rfl rfl rfl ?_
   refine wl_end rfl ?_
   refine nm_sub [(0, _), (3, _)] ⟨rfl, rfl, trivial⟩ ?_
   refine nm_thn ?_
   refine ws_seqN Normal_n19 Normal_n20 rfl rfl rfl ?_
   refine ws_draw rfl (by kernel_rfl) S 11 rfl ?_
   clear S
   refine wa_takeP (i := 0) (d := 12) 10 rfl (by kernel_rfl) (by kernel_rfl) (by kernel_rfl) rfl rfl rfl (fun w1 => run_move rfl rfl) ?_
   refine wa_takeP (i := 2) (d := 14) 9 rfl (by kernel_rfl) (by kernel_rfl) (by kernel_rfl) rfl rfl rfl (fun w3 => run_move rfl rfl) ?_
   refine wa_take (i := 3) (d := 15) 8 rfl (by kernel_rfl) (by kernel_rfl) (by kernel_rfl) rfl rfl rfl (fun M5 N5 w5 hle5 S5 => .inl (run_indexM (C := cdTm) 0 rfl rfl rfl sl22 (by first | rfl | omega) (ha.mono hle5) (by first | omega | (simp only [lens]; omega)))) ?_
   refine wa_takeP (i := 4) (d := 16) 7 rfl (by kernel_rfl) (by kernel_rfl) (by kernel_rfl) rfl rfl rfl (fun w7 => run_fieldAddr rfl rfl Try.underlying89 rfl (ce3) (nf3)) ?_
   refine wa_take (i := 5) (d := 17) 6 rfl (by kernel_rfl) (by kernel_rfl) (by kernel_rfl) rfl rfl rfl (fun M9 N9 w9 hle9 S9 => .inl (run_load1 rfl rfl Try.underlying3 rfl ((ha.mono hle9).cell S9.m (i := 0) (by first | omega | (simp only [lens]; omega)) 0 rfl rfl))) ?_
   refine wa_takeP (i := 6) (d := 18) 5 rfl (by kernel_rfl) (by kernel_rfl) (by kernel_rfl) rfl rfl rfl (fun w11 => run_neg rfl rfl (by have h9 := bd_at hba (i := 0) (by omega); omega)) ?_
   refine wa_takeP (i := 7) (d := 19) 4 rfl (by kernel_rfl) (by kernel_rfl) (by kernel_rfl) rfl rfl rfl (fun w13 => run_move rfl rfl) ?_
   refine wa_only (i := 1) 3 rfl (by kernel_rfl) rfl rfl (fun w15 S15 => ?_)
   refine (wo_ct rfl rfl rfl rfl rfl rfl rfl cf75 S15 (Of_t a (ha.mono (Hp.le_un _ _)) B hba S15.lend) ?_)
   intro vw16 w16 M15 hle15 S16 hRw16; clear S15
   replace ha := ha.mono hle15
   obtain ⟨gw1, rfl, hw1⟩ := hRw16
   refine LeftW.grow [] (hle15) S16 ?_; clear S16
   change WA _ _ _ _ _ _ _ _ _ _ _ _ []
   refine wa_base ?_
   refine wa_only (i := 8) 2 rfl (by kernel_rfl) rfl rfl (fun w18 S18 => ?_)
   refine (wo_ct rfl rfl rfl rfl rfl rfl rfl cf104 S18 (ShiftW_t hw1 (-((ga a 0).e)) (-1) B (by first | omega | (have h9 := bd_at hba (i := 0) (by omega); omega)) (by first | omega | (have h9 := bd_at hba (i := 0) (by omega); omega)) S18.lend) ?_)
   intro vw19 w19 M17 hle17 S19 hRw19; clear S18
   replace ha := ha.mono hle17
   replace hw1 := hw1.mono hle17
   obtain ⟨gw2, rfl, hw2⟩ := hRw19
   refine LeftW.grow [] (hle17) S19 ?_; clear S19
   change WA _ _ _ _ _ _ _ _ _ _ _ _ []
   refine wa_base ?_
   refine wa_only (i := 9) 1 rfl (by kernel_rfl) rfl rfl (fun w21 S21 => ?_)
   refine (wo_ct rfl rfl rfl rfl rfl rfl rfl cf65 S21 (FormW_t hw2 (by first | omega | (have h9 := bd_at hba (i := 0) (by omega); omega)) S21.lend) ?_)
   intro vw22 w22 M19 hle19 S22 hRw22; clear S21
   replace ha := ha.mono hle19
   replace hw1 := hw1.mono hle19
   replace hw2 := hw2.mono hle19
   obtain ⟨A1, c1, l1, rfl, hr1, hcan1, hbd1, hmk1⟩ := hRw22
   refine LeftW.grow [] (hle19) S22 ?_; clear S22
   change WA _ _ _ _ _ _ _ _ _ _ _ _ []
   refine wa_base ?_
   refine wa_takeP (i := 10) (d := 2) 0 rfl (by kernel_rfl) (by kernel_rfl) (by kernel_rfl) rfl rfl rfl (fun w23 => run_assign rfl rfl) ?_
   refine wa_end (by kernel_rfl) (fun w24 S24 => ?_)
   refine nm_sub [(2, _)] ⟨rfl, trivial⟩ ?_
   refine nm_thn ?_
   refine ws_ret hC [_] rfl rfl ⟨rfl, trivial⟩ ?_
   refine ⟨_, rfl, _, (hle15.trans hle17).trans hle19, (S24.pick [] [] (by decide) trivial), ?_⟩
   refine ⟨_, _, _, rfl, hr1, hcan1, hbd1, ?_⟩
   rw [hmk1]
   unfold unitP
   first | rw [if_pos (show (ga a 0).c < 0 by assumption)] | rw [if_neg (show ¬ (ga a 0).c < 0 by assumption)]
  ·have hb11 := of_decide_eq_false hb11
   refine ws_skip rfl ?_
   refine nm_sub [(0, _), (3, _)] ⟨rfl, rfl, trivial⟩ ?_
   refine nm_thn ?_
   refine ws_seqN Normal_n19 Normal_n20 rfl rfl rfl ?_
   refine ws_draw rfl (by kernel_rfl) S 11 rfl ?_
   clear S
   refine wa_takeP (i := 0) (d := 12) 10 rfl (by kernel_rfl) (by kernel_rfl) (by kernel_rfl) rfl rfl rfl (fun w25 => run_move rfl rfl) ?_
   refine wa_takeP (i := 2) (d := 14) 9 rfl (by kernel_rfl) (by kernel_rfl) (by kernel_rfl) rfl rfl rfl (fun w27 => run_move rfl rfl) ?_
   refine wa_take (i := 3) (d := 15) 8 rfl (by kernel_rfl) (by kernel_rfl) (by kernel_rfl) rfl rfl rfl (fun M25 N22 w29 hle25 S29 => .inl (run_indexM (C := cdTm) 0 rfl rfl rfl sl22 (by first | rfl | omega) (ha.mono hle25) (by first | omega | (simp only [lens]; omega)))) ?_
   refine wa_takeP (i := 4) (d := 16) 7 rfl (by kernel_rfl) (by kernel_rfl) (by kernel_rfl) rfl rfl rfl (fun w31 => run_fieldAddr rfl rfl Try.underlying89 rfl (ce3) (nf3)) ?_
   refine wa_take (i := 5) (d := 17) 6 rfl (by kernel_rfl) (by kernel_rfl) (by kernel_rfl) rfl rfl rfl (fun M29 N26 w33 hle29 S33 => .inl (run_load1 rfl rfl Try.underlying3 rfl ((ha.mono hle29).cell S33.m (i := 0) (by first | omega | (simp only [lens]; omega)) 0 rfl rfl))) ?_
   refine wa_takeP (i := 6) (d := 18) 5 rfl (by kernel_rfl) (by kernel_rfl) (by kernel_rfl) rfl rfl rfl (fun w35 => run_neg rfl rfl (by have h9 := bd_at hba (i := 0) (by omega); omega)) ?_
   refine wa_takeP (i := 7) (d := 19) 4 rfl (by kernel_rfl) (by kernel_rfl) (by kernel_rfl) rfl rfl rfl (fun w37 => run_move rfl rfl) ?_
   refine wa_only (i := 1) 3 rfl (by kernel_rfl) rfl rfl (fun w39 S39 => ?_)
   refine (wo_ct rfl rfl rfl rfl rfl rfl rfl cf75 S39 (Of_t a (ha.mono (Hp.le_un _ _)) B hba S39.lend) ?_)
   intro vw40 w40 M35 hle35 S40 hRw40; clear S39
   replace ha := ha.mono hle35
   obtain ⟨gw3, rfl, hw3⟩ := hRw40
   refine LeftW.grow [] (hle35) S40 ?_; clear S40
   change WA _ _ _ _ _ _ _ _ _ _ _ _ []
   refine wa_base ?_
   refine wa_only (i := 8) 2 rfl (by kernel_rfl) rfl rfl (fun w42 S42 => ?_)
   refine (wo_ct rfl rfl rfl rfl rfl rfl rfl cf104 S42 (ShiftW_t hw3 (-((ga a 0).e)) 1 B (by first | omega | (have h9 := bd_at hba (i := 0) (by omega); omega)) (by first | omega | (have h9 := bd_at hba (i := 0) (by omega); omega)) S42.lend) ?_)
   intro vw43 w43 M37 hle37 S43 hRw43; clear S42
   replace ha := ha.mono hle37
   replace hw3 := hw3.mono hle37
   obtain ⟨gw4, rfl, hw4⟩ := hRw43
   refine LeftW.grow [] (hle37) S43 ?_; clear S43
   change WA _ _ _ _ _ _ _ _ _ _ _ _ []
   refine wa_base ?_
   refine wa_only (i := 9) 1 rfl (by kernel_rfl) rfl rfl (fun w45 S45 => ?_)
   refine (wo_ct rfl rfl rfl rfl rfl rfl rfl cf65 S45 (FormW_t hw4 (by first | omega | (have h9 := bd_at hba (i := 0) (by omega); omega)) S45.lend) ?_)
   intro vw46 w46 M39 hle39 S46 hRw46; clear S45
   replace ha := ha.mono hle39
   replace hw3 := hw3.mono hle39
   replace hw4 := hw4.mono hle39
   obtain ⟨A2, c2, l2, rfl, hr2, hcan2, hbd2, hmk2⟩ := hRw46
   refine LeftW.grow [] (hle39) S46 ?_; clear S46
   change WA _ _ _ _ _ _ _ _ _ _ _ _ []
   refine wa_base ?_
   refine wa_takeP (i := 10) (d := 2) 0 rfl (by kernel_rfl) (by kernel_rfl) (by kernel_rfl) rfl rfl rfl (fun w47 => run_assign rfl rfl) ?_
   refine wa_end (by kernel_rfl) (fun w48 S48 => ?_)
   refine nm_sub [(2, _)] ⟨rfl, trivial⟩ ?_
   refine nm_thn ?_
   refine ws_ret hC [_] rfl rfl ⟨rfl, trivial⟩ ?_
   refine ⟨_, rfl, _, (hle35.trans hle37).trans hle39, (S48.pick [] [] (by decide) trivial), ?_⟩
   refine ⟨_, _, _, rfl, hr2, hcan2, hbd2, ?_⟩
   rw [hmk2]
   unfold unitP
   first | rw [if_pos (show (ga a 0).c < 0 by assumption)] | rw [if_neg (show ¬ (ga a 0).c < 0 by assumption)]
end Go.Proofs.Ytkcighnochjlgaa
namespace Go.Proofs.Ytkcighnochjlgaa
open Go.ChangeShapes Go.WideShapes Go.ChangeAt Go.RowKit
section
variable {P : Program} {o : Oper} {L : List (Nat × Value)} {w : World} {x y : Operand} {t t' src dst : TypeId} {a b : Int} {k k2 : IntKind}
theorem run_binK {bo : BinOp} {v : Value} (ho : o.op = .binOp bo t x y t') (hx : oev L x = some (.int k a)) (hy : oev L y = some (.int k2 b)) (h : ∀ w, (binOp bo t (.int k a) (.int k2 b)).run P w = .ok v w) : Run P o L w v w := by
  intro n c hc
  unfold execOp
  simp only [ho, hc.eval hx, hc.eval hy]
  have : ∀ w, (eqGuard bo t x y (.int k a) (.int k2 b)).run P w = .ok () w := by
    intro w
    unfold eqGuard
    split <;> simp
  simp [this, h]
theorem run_shrK (ho : o.op = .binOp .shr t x y t') (hx : oev L x = some (.int k a)) (hy : oev L y = some (.int k2 b)) (h : 0 ≤ b) : Run P o L w (.int k (a.fdiv (2 ^ min b.toNat k.bits))) w :=
  run_binK ho hx hy fun w => by simp [binOp, Op.shift, Int.not_lt.2 h]
theorem run_shlK (ho : o.op = .binOp .shl t x y t') (hx : oev L x = some (.int k a)) (hy : oev L y = some (.int k2 b)) (h : 0 ≤ b) : Run P o L w (.int k (k.wrap (a * 2 ^ min b.toNat k.bits))) w :=
  run_binK ho hx hy fun w => by simp [binOp, Op.shift, Int.not_lt.2 h]
theorem run_andK (ho : o.op = .binOp .and t x y t') (hx : oev L x = some (.int k a)) (hy : oev L y = some (.int k b)) : Run P o L w (.int k (k.wrap ((BitVec.ofInt k.bits a &&& BitVec.ofInt k.bits b).toNat : Nat))) w :=
  run_binK ho hx hy fun w => by simp [binOp, Op.intBits]
theorem run_andNotK (ho : o.op = .binOp .andNot t x y t') (hx : oev L x = some (.int k a)) (hy : oev L y = some (.int k b)) : Run P o L w (.int k (k.wrap ((BitVec.ofInt k.bits a &&& ~~~ BitVec.ofInt k.bits b).toNat : Nat))) w :=
  run_binK ho hx hy fun w => by simp [binOp, Op.intBits]
theorem run_addK (ho : o.op = .binOp .add t x y t') (hx : oev L x = some (.int k a)) (hy : oev L y = some (.int k b)) : Run P o L w (.int k (k.wrap (a + b))) w :=
  run_binK ho hx hy fun w => by simp [binOp, Op.intArith]
theorem run_convI (ho : o.op = .convert src dst x) (hx : oev L x = some (.int k a)) (hs : ∃ d, P.underlying src = some d) (hd : P.underlying dst = some (.int k2)) : Run P o L w (.int k2 (k2.wrap a)) w := by
  intro n c he
  obtain ⟨d, hs⟩ := hs
  unfold execOp
  simp only [ho, he.eval hx, convert, Sem.run_bind, run_underlying hs, run_underlying hd, Result.andThen_ok, Conv.intToInt, Sem.run_pure]
theorem run_shrN {s n : Nat} (ho : o.op = .binOp .shr t x y t') (hx : oev L x = some (.int .i64 (s : Int))) (hy : oev L y = some (.int .i64 (n : Int))) (h : n ≤ 64) : Run P o L w (.int .i64 ((s / 2 ^ n : Nat) : Int)) w := by
  have := run_shrK (w := w) (P := P) ho hx hy (by omega)
  rw [show min ((n : Int).toNat) IntKind.i64.bits = n by show min _ 64 = n; omega, Int.fdiv_eq_ediv_of_nonneg _ (by exact Int.le_of_lt (Int.pow_pos (by decide)))] at this
  rw [show ((s / 2 ^ n : Nat) : Int) = (s : Int) / 2 ^ n by rw [Int.natCast_ediv, Int.natCast_pow]; rfl]
  exact this
theorem run_shl1N {n : Nat} (ho : o.op = .binOp .shl t x y t') (hx : oev L x = some (.int .i64 1)) (hy : oev L y = some (.int .i64 (n : Int))) (h : n ≤ 62) : Run P o L w (.int .i64 ((2 ^ n : Nat) : Int)) w := by
  have := run_shlK (w := w) (P := P) ho hx hy (by omega)
  rw [show min ((n : Int).toNat) IntKind.i64.bits = n by show min _ 64 = n; omega] at this
  have e : IntKind.i64.wrap (1 * 2 ^ n) = ((2 ^ n : Nat) : Int) := by
    have h1 : (2 : Int) ^ n = ((2 ^ n : Nat) : Int) := by rw [Int.natCast_pow]; rfl
    have h2 : 2 ^ n ≤ 2 ^ 62 := Nat.pow_le_pow_right (by decide) h
    rw [Int.one_mul, h1]
    have h3 : 2 ^ n ≤ 4611686018427387904 := h2
    generalize 2 ^ n = m at *
    exact wr_id (by omega)
  rw [e] at this
  exact this
theorem ofInt_nat (s : Nat) : BitVec.ofInt 64 (s : Int) = BitVec.ofNat 64 s := by
  apply BitVec.eq_of_toNat_eq
  simp
theorem run_and1N {s : Nat} (ho : o.op = .binOp .and t x y t') (hx : oev L x = some (.int .i64 (s : Int))) (hy : oev L y = some (.int .i64 1)) : Run P o L w (.int .i64 ((s % 2 : Nat) : Int)) w := by
  have := run_andK (w := w) (P := P) ho hx hy
  have e : (BitVec.ofInt IntKind.i64.bits (s : Int) &&& BitVec.ofInt IntKind.i64.bits 1).toNat = s % 2 := by
    show (BitVec.ofInt 64 (s : Int) &&& BitVec.ofInt 64 ((1 : Nat) : Int)).toNat = s % 2
    rw [ofInt_nat, ofInt_nat, BitVec.toNat_and, BitVec.toNat_ofNat, BitVec.toNat_ofNat, Nat.mod_eq_of_lt (show 1 < 2 ^ 64 by decide), Nat.and_one_is_mod]
    omega
  rw [e] at this
  have e2 : IntKind.i64.wrap ((s % 2 : Nat) : Int) = ((s % 2 : Nat) : Int) := wr_id (by omega)
  rw [e2] at this
  exact this
theorem run_convN {s : Nat} (ho : o.op = .convert src dst x) (hx : oev L x = some (.int .i64 (s : Int))) (hs : ∃ d, P.underlying src = some d) (hd : P.underlying dst = some (.int .u64)) (h : s < 9223372036854775808) : Run P o L w (.int .u64 (s : Int)) w := by
  have := run_convI (w := w) ho hx hs hd
  rw [show IntKind.u64.wrap (s : Int) = (s : Int) from by
    show (s : Int) % 18446744073709551616 = _
    omega] at this
  exact this
/-- A bit cleared. -/
def clr (s n : Nat) : Nat := s &&& (2 ^ 64 - (2 ^ n + 1))
theorem clr_bit (s n i : Nat) (hn : n ≤ 62) (hi : i < 64) : (clr s n).testBit i = (s.testBit i && !decide (n = i)) := by
  unfold clr
  have h2 : 2 ^ n < 2 ^ 64 := Nat.pow_lt_pow_right (by decide) (by omega)
  rw [Nat.testBit_and, Nat.testBit_two_pow_sub_succ h2, Nat.testBit_two_pow]
  simp [hi]
theorem clr_le (s n : Nat) : clr s n ≤ s := Nat.and_le_left
theorem clr_lt {s n : Nat} (hn : n ≤ 62) (h : s.testBit n = true) : clr s n < s := by
  refine Nat.lt_of_le_of_ne (clr_le s n) fun e => ?_
  have := clr_bit s n n hn (by omega)
  rw [e, h] at this
  simp at this
theorem clr_testBit {s n : Nat} (hs : s < 2 ^ 62) (hn : n ≤ 62) : (fun i => (clr s n).testBit i) = fun i => s.testBit i && !decide (i = n) := by
  funext i
  by_cases hi : i < 64
  · rw [clr_bit s n i hn hi]
    congr 2
    exact decide_eq_decide.2 eq_comm
  · have h2 : s < 2 ^ i := Nat.lt_of_lt_of_le hs (Nat.pow_le_pow_right (by decide) (by omega))
    rw [Nat.testBit_lt_two_pow h2, Nat.testBit_lt_two_pow (Nat.lt_of_le_of_lt (clr_le s n) h2)]
    rfl
theorem run_clrN {s n : Nat} (ho : o.op = .binOp .andNot t x y t') (hx : oev L x = some (.int .i64 (s : Int))) (hy : oev L y = some (.int .i64 ((2 ^ n : Nat) : Int))) (hs : s < 2 ^ 62) (hn : n ≤ 62) : Run P o L w (.int .i64 ((clr s n : Nat) : Int)) w := by
  have := run_andNotK (w := w) (P := P) ho hx hy
  have h2 : 2 ^ n < 2 ^ 64 := Nat.pow_lt_pow_right (by decide) (by omega)
  have e : (BitVec.ofInt IntKind.i64.bits (s : Int) &&& ~~~ BitVec.ofInt IntKind.i64.bits ((2 ^ n : Nat) : Int)).toNat = clr s n := by
    show (BitVec.ofInt 64 (s : Int) &&& ~~~ BitVec.ofInt 64 ((2 ^ n : Nat) : Int)).toNat = clr s n
    rw [ofInt_nat, ofInt_nat, BitVec.toNat_and, BitVec.toNat_not, BitVec.toNat_ofNat, BitVec.toNat_ofNat, Nat.mod_eq_of_lt h2, Nat.mod_eq_of_lt (Nat.lt_trans hs (by decide))]
    unfold clr
    congr 1
    omega
  rw [e] at this
  have e2 : IntKind.i64.wrap ((clr s n : Nat) : Int) = ((clr s n : Nat) : Int) := wr_id (by have := clr_le s n; omega)
  rw [e2] at this
  exact this
end
def ocS (a : Int) (n : Nat) : Int := a.fdiv (2 ^ n)
def ocA (a b : Int) : Int := IntKind.u64.wrap ((BitVec.ofInt 64 a &&& BitVec.ofInt 64 b).toNat : Nat)
def ocP (a b : Int) : Int := IntKind.u64.wrap (a + b)
def oc1 (x : Int) : Int := ocP (ocA (ocS x 1) 6148914691236517205) (ocA x 6148914691236517205)
def oc2 (x : Int) : Int := ocP (ocA (ocS (oc1 x) 2) 3689348814741910323) (ocA (oc1 x) 3689348814741910323)
def oc3 (x : Int) : Int := ocA (ocP (ocS (oc2 x) 4) (oc2 x)) 1085102592571150095
def oc4 (x : Int) : Int := ocP (oc3 x) (ocS (oc3 x) 8)
def oc5 (x : Int) : Int := ocP (oc4 x) (ocS (oc4 x) 16)
def oc6 (x : Int) : Int := ocP (oc5 x) (ocS (oc5 x) 32)
def ocR (x : Int) : Int := IntKind.i64.wrap ((BitVec.ofInt 64 (IntKind.i64.wrap (oc6 x)) &&& BitVec.ofInt 64 127).toNat : Nat)
def pcN (s : Nat) : Nat → Nat
  | 0 => 0
  | c + 1 => pcN s c + if s.testBit c = true then 1 else 0
set_option maxRecDepth 100000 in
theorem oc_all : (List.range 4096).all (fun x => decide (ocR (x : Int) = (pcN x 12 : Int))) = true := by decide +kernel
theorem oc_law {x : Nat} (h : x < 4096) : ocR (x : Int) = (pcN x 12 : Int) := of_decide_eq_true (List.all_eq_true.1 oc_all x (List.mem_range.2 h))
end Go.Proofs.Ytkcighnochjlgaa
namespace Go.Proofs.Ytkcighnochjlgaa
open Go.ChangeShapes Go.WideShapes Go.ChangeAt Go.RowKit
theorem sl94 : SlOf Try.prog 94 (cdMap 87) := ⟨.map none, Try.underlying94, by kernel_rfl, rfl, by decide, by decide⟩
noncomputable def OC64_n0 : Code := Try.f147.body.getD .skip
noncomputable def OC64_n1 : Code := cL OC64_n0
noncomputable def OC64_n2 : Code := cR OC64_n0
noncomputable def OC64_n3 : Code := cL OC64_n2
noncomputable def OC64_n4 : Code := cR OC64_n2
noncomputable def OC64_n5 : Code := cL OC64_n4
noncomputable def OC64_n6 : Code := cR OC64_n4
noncomputable def OC64_n7 : Code := cL OC64_n6
noncomputable def OC64_n8 : Code := cR OC64_n6
noncomputable def OC64_n9 : Code := cL OC64_n8
noncomputable def OC64_n10 : Code := cR OC64_n8
noncomputable def OC64_n11 : Code := cL OC64_n10
noncomputable def OC64_n12 : Code := cR OC64_n10
noncomputable def OC64_n13 : Code := cL OC64_n12
noncomputable def OC64_n14 : Code := cR OC64_n12
noncomputable def OC64_n15 : Code := cL OC64_n14
noncomputable def OC64_n16 : Code := cR OC64_n14
set_option maxRecDepth 10000 in
theorem OC64_q {w : World} {M : Hp} {X : Fr} (x : Nat) (hx : x < 4096) (S : SH w M X []) : Cq Try.prog 147 [.int .u64 (x : Int)] w M X (fun u => u = .int .i64 (pcN x 12 : Int)) := by
 unfold Cq
 refine calls_in (b := OC64_n0) Try.func147 rfl Try.ntmps147 rfl (fun C hC => ?_)
 refine ws_sub [(0, _)] ⟨rfl, trivial⟩ ?_
 refine ws_seqN OC64_n1 OC64_n2 rfl rfl rfl ?_
 refine ws_region rfl ?_
 refine wla 0 1 rfl rfl rfl rfl rfl rfl rfl ?_
 refine wl_end rfl ?_
 refine nm_sub [(0, _)] ⟨rfl, trivial⟩ ?_
 refine nm_thn ?_
 refine ws_seqN OC64_n3 OC64_n4 rfl rfl rfl ?_
 refine ws_region rfl ?_
 refine wlm 0 1 rfl rfl rfl rfl rfl rfl rfl ?_
 refine wlo 1 2 rfl rfl rfl (wo_run rfl rfl (run_shrK rfl rfl rfl (by decide)) ?_)
 refine wlo 2 3 rfl rfl rfl (wo_run rfl rfl (run_andK rfl rfl rfl) ?_)
 refine wlm 3 4 rfl rfl rfl rfl rfl rfl rfl ?_
 refine wlo 4 5 rfl rfl rfl (wo_run rfl rfl (run_andK rfl rfl rfl) ?_)
 refine wlo 5 6 rfl rfl rfl (wo_run rfl rfl (run_addK rfl rfl rfl) ?_)
 refine wla 6 7 rfl rfl rfl rfl rfl rfl rfl ?_
 refine wl_end rfl ?_
 refine nm_sub [(0, _)] ⟨rfl, trivial⟩ ?_
 refine nm_thn ?_
 refine ws_seqN OC64_n5 OC64_n6 rfl rfl rfl ?_
 refine ws_eq 0 (.int .u64 (oc1 x)) rfl rfl ?_
 refine ws_region rfl ?_
 refine wlm 0 1 rfl rfl rfl rfl rfl rfl rfl ?_
 refine wlo 1 2 rfl rfl rfl (wo_run rfl rfl (run_shrK rfl rfl rfl (by decide)) ?_)
 refine wlo 2 3 rfl rfl rfl (wo_run rfl rfl (run_andK rfl rfl rfl) ?_)
 refine wlm 3 4 rfl rfl rfl rfl rfl rfl rfl ?_
 refine wlo 4 5 rfl rfl rfl (wo_run rfl rfl (run_andK rfl rfl rfl) ?_)
 refine wlo 5 6 rfl rfl rfl (wo_run rfl rfl (run_addK rfl rfl rfl) ?_)
 refine wla 6 7 rfl rfl rfl rfl rfl rfl rfl ?_
 refine wl_end rfl ?_
 refine nm_sub [(0, _)] ⟨rfl, trivial⟩ ?_
 refine nm_thn ?_
 refine ws_seqN OC64_n7 OC64_n8 rfl rfl rfl ?_
 refine ws_eq 0 (.int .u64 (oc2 x)) rfl rfl ?_
 refine ws_region rfl ?_
 refine wlm 0 1 rfl rfl rfl rfl rfl rfl rfl ?_
 refine wlo 1 2 rfl rfl rfl (wo_run rfl rfl (run_shrK rfl rfl rfl (by decide)) ?_)
 refine wlm 2 3 rfl rfl rfl rfl rfl rfl rfl ?_
 refine wlo 3 4 rfl rfl rfl (wo_run rfl rfl (run_addK rfl rfl rfl) ?_)
 refine wlo 4 5 rfl rfl rfl (wo_run rfl rfl (run_andK rfl rfl rfl) ?_)
 refine wla 5 6 rfl rfl rfl rfl rfl rfl rfl ?_
 refine wl_end rfl ?_
 refine nm_sub [(0, _)] ⟨rfl, trivial⟩ ?_
 refine nm_thn ?_
 refine ws_seqN OC64_n9 OC64_n10 rfl rfl rfl ?_
 refine ws_eq 0 (.int .u64 (oc3 x)) rfl rfl ?_
 refine ws_region rfl ?_
 refine wlm 0 1 rfl rfl rfl rfl rfl rfl rfl ?_
 refine wlm 1 2 rfl rfl rfl rfl rfl rfl rfl ?_
 refine wlo 2 3 rfl rfl rfl (wo_run rfl rfl (run_shrK rfl rfl rfl (by decide)) ?_)
 refine wlo 3 4 rfl rfl rfl (wo_run rfl rfl (run_addK rfl rfl rfl) ?_)
 refine wla 4 5 rfl rfl rfl rfl rfl rfl rfl ?_
 refine wl_end rfl ?_
 refine nm_sub [(0, _)] ⟨rfl, trivial⟩ ?_
 refine nm_thn ?_
 refine ws_seqN OC64_n11 OC64_n12 rfl rfl rfl ?_
 refine ws_eq 0 (.int .u64 (oc4 x)) rfl rfl ?_
 refine ws_region rfl ?_
 refine wlm 0 1 rfl rfl rfl rfl rfl rfl rfl ?_
 refine wlm 1 2 rfl rfl rfl rfl rfl rfl rfl ?_
 refine wlo 2 3 rfl rfl rfl (wo_run rfl rfl (run_shrK rfl rfl rfl (by decide)) ?_)
 refine wlo 3 4 rfl rfl rfl (wo_run rfl rfl (run_addK rfl rfl rfl) ?_)
 refine wla 4 5 rfl rfl rfl rfl rfl rfl rfl ?_
 refine wl_end rfl ?_
 refine nm_sub [(0, _)] ⟨rfl, trivial⟩ ?_
 refine nm_thn ?_
 refine ws_seqN OC64_n13 OC64_n14 rfl rfl rfl ?_
 refine ws_eq 0 (.int .u64 (oc5 x)) rfl rfl ?_
 refine ws_region rfl ?_
 refine wlm 0 1 rfl rfl rfl rfl rfl rfl rfl ?_
 refine wlm 1 2 rfl rfl rfl rfl rfl rfl rfl ?_
 refine wlo 2 3 rfl rfl rfl (wo_run rfl rfl (run_shrK rfl rfl rfl (by decide)) ?_)
 refine wlo 3 4 rfl rfl rfl (wo_run rfl rfl (run_addK rfl rfl rfl) ?_)
 refine wla 4 5 rfl rfl rfl rfl rfl rfl rfl ?_
 refine wl_end rfl ?_
 refine nm_sub [(0, _)] ⟨rfl, trivial⟩ ?_
 refine nm_thn ?_
 refine ws_seqN OC64_n15 OC64_n16 rfl rfl rfl ?_
 refine ws_eq 0 (.int .u64 (oc6 x)) rfl rfl ?_
 refine ws_region rfl ?_
 refine wlm 0 1 rfl rfl rfl rfl rfl rfl rfl ?_
 refine wlo 1 2 rfl rfl rfl (wo_run rfl rfl (run_convI rfl rfl ⟨_, Try.underlying194⟩ Try.underlying3) ?_)
 refine wlo 2 3 rfl rfl rfl (wo_run rfl rfl (run_andK rfl rfl rfl) ?_)
 refine wla 3 4 rfl rfl rfl rfl rfl rfl rfl ?_
 refine wl_end rfl ?_
 refine nm_sub [(2, _)] ⟨rfl, trivial⟩ ?_
 refine nm_thn ?_
 refine ws_ret hC [_] rfl rfl ⟨rfl, trivial⟩ ?_
 exact ⟨_, rfl, (S.pick [] [] (by decide) trivial), (congrArg (Value.int .i64) (oc_law hx))⟩
noncomputable def OC_n0 : Code := Try.f112.body.getD .skip
noncomputable def OC_n1 : Code := cL OC_n0
noncomputable def OC_n2 : Code := cR OC_n0
noncomputable def OC_n3 : Code := cL OC_n2
noncomputable def OC_n4 : Code := cR OC_n2
noncomputable def OC_n6 : Code := cR OC_n3
noncomputable def OC_n7 : Code := cL OC_n4
noncomputable def OC_n8 : Code := cR OC_n4
set_option maxRecDepth 10000 in
theorem OC_q {w : World} {M : Hp} {X : Fr} (x : Nat) (hx : x < 4096) (S : SH w M X []) : Cq Try.prog 112 [.int .u64 (x : Int)] w M X (fun u => u = .int .i64 (pcN x 12 : Int)) := by
 unfold Cq
 refine calls_in (b := OC_n0) Try.func112 rfl Try.ntmps112 rfl (fun C hC => ?_)
 refine ws_sub [(0, _)] ⟨rfl, trivial⟩ ?_
 refine ws_seqN OC_n1 OC_n2 rfl rfl rfl ?_
 refine ws_region rfl ?_
 refine wla 0 1 rfl rfl rfl rfl rfl rfl rfl ?_
 refine wl_end rfl ?_
 refine nm_sub [(0, _)] ⟨rfl, trivial⟩ ?_
 refine nm_thn ?_
 refine ws_seqN OC_n3 OC_n4 rfl rfl rfl ?_
 refine ws_condFN OC_n6 rfl rfl rfl ?_
 refine ws_skip rfl ?_
 refine nm_thn ?_
 refine ws_seqN OC_n7 OC_n8 rfl rfl rfl ?_
 refine ws_region rfl ?_
 refine wlm 0 1 rfl rfl rfl rfl rfl rfl rfl ?_
 refine wlo 1 2 rfl rfl rfl (wo_cq rfl rfl rfl rfl rfl rfl rfl cf147 S (OC64_q x (hx) S.lend) ?_)
 rintro _ w1 S1 rfl; clear S
 refine wla 2 3 rfl rfl rfl rfl rfl rfl rfl ?_
 refine wl_end rfl ?_
 refine nm_sub [(2, _)] ⟨rfl, trivial⟩ ?_
 refine nm_thn ?_
 refine ws_ret hC [_] rfl rfl ⟨rfl, trivial⟩ ?_
 exact ⟨_, rfl, (S1.pick [] [] (by decide) trivial), rfl⟩
end Go.Proofs.Ytkcighnochjlgaa
namespace Go.Proofs.Ytkcighnochjlgaa
open Go.ChangeShapes Go.WideShapes Go.ChangeAt Go.RowKit
noncomputable def AAdd_n0 : Code := Try.f113.body.getD .skip
set_option maxHeartbeats 1000000 in
set_option maxRecDepth 10000 in
theorem AAdd_b {w : World} {M : Hp} {X : Fr} (a : Int) (ts : List Tm) {tsA : Option Addr} {tsc : Nat} {gb8 gb3 : Nat} {vr : Value} {gs : List (Option Nat)} (ps : List (Option Pol)) (ov : List Int) {oA : Option Addr} {oc : Nat} (hts : RdA cdTm (M.un X.h) tsA tsc ts) (hps : Wks (fun _ => 1) M gs ps) (hov : RdA cdInt (M.un X.h) oA oc ov) (p : Pol) (ha : 0 ≤ a ∧ a.toNat < ov.length) (hk0 : 0 ≤ ga ov a.toNat) (hk1 : (ga ov a.toNat).toNat < gs.length) (hp : ga ps (ga ov a.toNat).toNat = some p) (hbd : Bd ts 1) (S : SH w M X [Rs.bun [Rs.box gb8 94 [vr], Rs.row (cdMap 87) vr gs, Rs.box gb3 36 [.slice oA ov.length oc]]]) : C1 Try.prog 113 [.int .i64 a, .slice tsA ts.length tsc, .pointer (some ⟨gb8, 0, none⟩), .pointer (some ⟨gb3, 0, none⟩)] w M X (fun u M' r' => u = tup [] ∧ ∃ gs', gs'.length = gs.length ∧ Wks (fun _ => 1) M' gs' (ps.set (ga ov a.toNat).toNat (some (p + mk (pr ts)))) ∧ r' = Rs.bun [Rs.box gb8 94 [vr], Rs.row (cdMap 87) vr gs', Rs.box gb3 36 [.slice oA ov.length oc]]) := by
 unfold C1
 replace S := S.unbun
 have rmhts : ts.length * 16 ≤ 140737488355328 := hts.room
 have hgl := hps.1
 refine calls_in (b := AAdd_n0) Try.func113 rfl Try.ntmps113 rfl (fun C hC => ?_)
 refine ws_sub [(0, _), (1, _), (2, _), (3, _)] ⟨rfl, rfl, rfl, rfl, trivial⟩ ?_
 refine ws_draw rfl (by kernel_rfl) S 17 rfl ?_
 clear S
 refine wa_take (i := 0) (d := 6) 16 rfl (by kernel_rfl) (by kernel_rfl) (by kernel_rfl) rfl rfl rfl (fun M1 N1 w1 hle1 S1 => .inl (run_load1 rfl rfl Try.underlying94 rfl (S1.suf.boxc (i := 0) rfl rfl))) ?_
 refine wa_take (i := 1) (d := 7) 15 rfl (by kernel_rfl) (by kernel_rfl) (by kernel_rfl) rfl rfl rfl (fun M2 N2 w2 hle2 S2 => .inl (run_load1 rfl rfl Try.underlying36 rfl (S2.suf.boxc (i := 2) rfl rfl))) ?_
 refine wa_takeP (i := 2) (d := 8) 14 rfl (by kernel_rfl) (by kernel_rfl) (by kernel_rfl) rfl rfl rfl (fun w3 => run_move rfl rfl) ?_
 refine wa_take (i := 3) (d := 9) 13 rfl (by kernel_rfl) (by kernel_rfl) (by kernel_rfl) rfl rfl rfl (fun M4 N4 w4 hle4 S4 => .inl (run_indexM (C := cdInt) a.toNat rfl rfl rfl sl36 (by first | rfl | omega) (hov.mono (Hp.un_mono hle4 S4.mx)) (by first | omega | (simp only [lens]; omega)))) ?_
 refine wa_take (i := 4) (d := 10) 12 rfl (by kernel_rfl) (by kernel_rfl) (by kernel_rfl) rfl rfl rfl (fun M5 N5 w5 hle5 S5 => .inl (run_load1 rfl rfl Try.underlying3 rfl ((hov.mono (Hp.un_mono hle5 S5.mx)).cell S5.um (i := a.toNat) (by first | omega | (simp only [lens]; omega)) 0 rfl rfl))) ?_
 refine wa_take (i := 5) (d := 11) 11 rfl (by kernel_rfl) (by kernel_rfl) (by kernel_rfl) rfl rfl rfl (fun M6 N6 w6 hle6 S6 => .inl (run_load1 rfl rfl Try.underlying94 rfl (S6.suf.boxc (i := 0) rfl rfl))) ?_
 refine wa_take (i := 6) (d := 12) 10 rfl (by kernel_rfl) (by kernel_rfl) (by kernel_rfl) rfl rfl rfl (fun M7 N7 w7 hle7 S7 => .inl (run_load1 rfl rfl Try.underlying36 rfl (S7.suf.boxc (i := 2) rfl rfl))) ?_
 refine wa_takeP (i := 7) (d := 13) 9 rfl (by kernel_rfl) (by kernel_rfl) (by kernel_rfl) rfl rfl rfl (fun w8 => run_move rfl rfl) ?_
 refine wa_take (i := 8) (d := 14) 8 rfl (by kernel_rfl) (by kernel_rfl) (by kernel_rfl) rfl rfl rfl (fun M9 N9 w9 hle9 S9 => .inl (run_indexM (C := cdInt) a.toNat rfl rfl rfl sl36 (by first | rfl | omega) (hov.mono (Hp.un_mono hle9 S9.mx)) (by first | omega | (simp only [lens]; omega)))) ?_
 refine wa_take (i := 9) (d := 15) 7 rfl (by kernel_rfl) (by kernel_rfl) (by kernel_rfl) rfl rfl rfl (fun M10 N10 w10 hle10 S10 => .inl (run_load1 rfl rfl Try.underlying3 rfl ((hov.mono (Hp.un_mono hle10 S10.mx)).cell S10.um (i := a.toNat) (by first | omega | (simp only [lens]; omega)) 0 rfl rfl))) ?_
 refine wa_take (i := 10) (d := 16) 6 rfl (by kernel_rfl) (by kernel_rfl) (by kernel_rfl) rfl rfl rfl (fun M11 N11 w11 hle11 S11 => .inl (run_indexR (C := (cdMap 87)) (i := 1) ((ga ov a.toNat).toNat) rfl rfl rfl sl94 S11.suf rfl (by first | rfl | omega) (by first | omega | (simp only [lens]; omega)))) ?_
 obtain ⟨gw1, eg1, hw1⟩ := hps.get (i := (ga ov a.toNat).toNat) (p := p) (by first | omega | (simp only [lens]; omega)) (hp)
 replace hw1 : Wk _ gw1 1 p := hw1
 refine wa_take (i := 11) (d := 17) 5 rfl (by kernel_rfl) (by kernel_rfl) (by kernel_rfl) rfl rfl rfl (fun M12 N12 w12 hle12 S12 => .inl (run_load1 rfl rfl Try.underlying87 rfl (S12.suf.rowc (i := 1) (e := (ga ov a.toNat).toNat) (j := 0) rfl (by first | omega | (simp only [lens]; omega)) rfl (congrArg (fun n => some (Value.map n)) eg1)))) ?_
 refine wa_takeP (i := 12) (d := 18) 4 rfl (by kernel_rfl) (by kernel_rfl) (by kernel_rfl) rfl rfl rfl (fun w13 => run_move rfl rfl) ?_
 refine wa_only (i := 13) 3 rfl (by kernel_rfl) rfl rfl (fun w15 S15 => ?_)
 refine (wo_ct rfl rfl rfl rfl rfl rfl rfl cf75 S15 (Of_t ts (hts.mono S15.un_XH) 1 hbd S15.lend) ?_)
 intro vw16 w16 M15 hle15 S16 hRw16; clear S15
 replace hts := hts.mono (Hp.un_mono hle15 S16.mx)
 replace hps := hps.mono hle15
 replace hov := hov.mono (Hp.un_mono hle15 S16.mx)
 replace hw1 := hw1.mono hle15
 obtain ⟨gw2, rfl, hw2⟩ := hRw16
 refine LeftW.grow [] (hle15) S16 ?_; clear S16
 change WA _ _ _ _ _ _ _ _ _ _ _ _ [_, _, _]
 refine wa_base ?_
 refine wa_only (i := 14) 2 rfl (by kernel_rfl) rfl rfl (fun w18 S18 => ?_)
 refine (wo_ct rfl rfl rfl rfl rfl rfl rfl cf60 S18 (PlusW_t hw1 hw2 1 (by omega) (by omega) (by omega) S18.lend) ?_)
 intro vw19 w19 M17 hle17 S19 hRw19; clear S18
 replace hts := hts.mono (Hp.un_mono hle17 S19.mx)
 replace hps := hps.mono hle17
 replace hov := hov.mono (Hp.un_mono hle17 S19.mx)
 replace hw1 := hw1.mono hle17
 replace hw2 := hw2.mono hle17
 obtain ⟨gw3, rfl, hw3⟩ := hRw19
 refine LeftW.grow [] (hle17) S19 ?_; clear S19
 change WA _ _ _ _ _ _ _ _ _ _ _ _ [_, _, _]
 refine wa_base ?_
 refine wa_take (i := 15) (d := 21) 1 rfl (by kernel_rfl) (by kernel_rfl) (by kernel_rfl) rfl rfl rfl (fun M18 N16 w20 hle18 S20 => .inl (run_indexR (C := (cdMap 87)) (i := 1) ((ga ov a.toNat).toNat) rfl rfl rfl sl94 S20.suf rfl (by first | rfl | omega) (by first | omega | (simp only [lens]; omega)))) ?_
 refine wa_only (i := 16) 0 rfl (by kernel_rfl) rfl rfl (fun w22 S22 => ?_)
 refine (wo_storeR (C := (cdMap 87)) (i := 1) (e := (ga ov a.toNat).toNat) (j := 0) (us := [_]) (H' := [_, _, _]) (some gw3) rfl rfl S22 rfl (by first | omega | (simp only [lens]; omega)) rfl rfl rfl sz87 rfl rfl rfl rfl ?_)
 intro w24 S24; clear S22
 have hd1 := hps.set_ (i := (ga ov a.toNat).toNat) (hw3.up (by exact Nat.le_refl _)) (by first | omega | (simp only [lens]; omega))
 refine LeftW.turn (by kernel_rfl) S24 ?_; clear S24
 change WA _ _ _ _ _ _ _ _ _ _ _ _ [_, _, _]
 refine wa_end (by kernel_rfl) (fun w25 S25 => ?_)
 refine nm_end hC [] rfl trivial ?_
 refine ⟨_, rfl, _, _, hle15.trans hle17, (S25.pick [0, 1, 2] [_, _, _] (by decide) ⟨rfl, rfl, rfl, trivial⟩).bun, ?_⟩
 exact ⟨rfl, _, by simp, hd1, rfl⟩
/-- A row of classes, as the row of the lists that the document puts together. -/
def fW (l : List Tm) : Option Pol := some (mk (pr l))
def putA (L : List (List Tm)) (k : Nat) (e c : Int) : List (List Tm) := L.set k (put (ga L k) e c)
theorem putA_len (L : List (List Tm)) (k : Nat) (e c : Int) : (putA L k e c).length = L.length := by simp [putA]
theorem putA_map (L : List (List Tm)) (k : Nat) (e c : Int) : (L.map fW).set k (some (mk (pr (ga L k)) + mk (pr [⟨e, c⟩]))) = (putA L k e c).map fW := by
 unfold putA
 rw [List.map_set]
 refine congrArg _ ?_
 unfold fW
 rw [mk_put]; rfl
theorem putA_map2 (L : List (List Tm)) (k : Nat) (h : k < L.length) (e c e2 c2 : Int) : (L.map fW).set k (some (mk (pr (ga L k)) + mk (pr [⟨e, c⟩, ⟨e2, c2⟩]))) = (putA (putA L k e c) k e2 c2).map fW := by
 unfold putA
 rw [ga_set _ _ _ _ h, if_pos rfl, List.set_set, List.map_set]
 refine congrArg _ ?_
 unfold fW
 rw [mk_put, mk_put, Pol.add_assoc]; rfl
theorem fW_ga (L : List (List Tm)) {k : Nat} (h : k < L.length) : ga (L.map fW) k = some (mk (pr (ga L k))) := by rw [ga_map _ _ _ h]; rfl
def kO (d : Dg) (a : Int) : Nat := (ovA d a.toNat).toNat
def inA (x : Cr) : Int := if x.plus = true then x.a else x.c
def toA (x : Cr) : Int := if x.plus = true then x.c else x.a
def mny (d : Dg) : Nat := (rk d (2 * d.crs.length + 1)).toNat
def row1 (d : Dg) (i : Nat) : List (List Tm) := putA (List.replicate (mny d) []) (kO d (toA (ga d.crs i))) 0 1
def row2 (d : Dg) (i : Nat) : List (List Tm) := putA (row1 d i) (kO d (inA (ga d.crs i))) 1 (-1)
def rowL (d : Dg) (i : Nat) : List (List Tm) := putA (putA (row2 d i) (kO d (ga d.crs i).b) 1 1) (kO d (ga d.crs i).b) 0 (-1)
theorem row1_len (d : Dg) (i : Nat) : (row1 d i).length = mny d := by unfold row1; rw [putA_len, List.length_replicate]
theorem row2_len (d : Dg) (i : Nat) : (row2 d i).length = mny d := by unfold row2; rw [putA_len, row1_len]
theorem rowL_len (d : Dg) (i : Nat) : (rowL d i).length = mny d := by unfold rowL; rw [putA_len, putA_len, row2_len]
def tblA (d : Dg) : List (List (List Tm)) := (List.range d.crs.length).map (rowL d)
theorem bdT {l : List Tm} (h : ∀ t ∈ l, t.e = 0 ∨ t.e = 1) : Bd l 1 := fun t ht => by have := h t ht; omega
theorem kO_ok {d : Dg} (h : arcsB d = true) {a : Int} (ha : 1 ≤ a ∧ a ≤ 2 * (d.crs.length : Int)) : 0 ≤ a ∧ a.toNat < (oversL d).length ∧ 0 ≤ ga (oversL d) a.toNat ∧ (ga (oversL d) a.toNat).toNat = kO d a ∧ kO d a < mny d := by
 have h1 := ov_lt h (a := a.toNat) (by omega) (by omega)
 rw [oversL_len, oversL_ga d (by omega)]
 refine ⟨by omega, by omega, h1.1, rfl, ?_⟩
 unfold kO mny
 omega
theorem rep_set {α : Type} (x y : α) (j n : Nat) (h : j < n) : (List.replicate j x ++ List.replicate (n - j) y).set j x = List.replicate (j + 1) x ++ List.replicate (n - (j + 1)) y := by
 rw [List.set_append_right _ _ (by simp), List.length_replicate, Nat.sub_self, show n - j = (n - (j + 1)) + 1 by omega, List.replicate_succ, List.set_cons_zero, List.replicate_succ', List.append_assoc]
 simp
theorem rep_fW (m : Nat) : List.replicate m (some Pol.o) = (List.replicate m ([] : List Tm)).map fW := by rw [List.map_replicate]; rfl
end Go.Proofs.Ytkcighnochjlgaa
