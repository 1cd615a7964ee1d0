/- Walks printed by eng.py. -/
import Derived.Test.YtkcighnochjlgaaM3
import Derived.Test.YtkcighnochjlgaaSrt
set_option linter.unusedSimpArgs false
set_option linter.unusedVariables false
namespace Go.Proofs.Ytkcighnochjlgaa
open Go.ChangeShapes Go.WideShapes Go.ChangeAt Go.RowKit
theorem inc_ext : ∀ {a b : List Int}, a.Pairwise (fun s t => s < t) → b.Pairwise (fun s t => s < t) → (∀ t, t ∈ a ↔ t ∈ b) → a = b
  | [], [], _, _, _ => rfl
  | [], t :: b, _, _, h => by have := (h t).2 (by simp); simp at this
  | t :: a, [], _, _, h => by have := (h t).1 (by simp); simp at this
  | s :: a, t :: b, ha, hb, h => by
    obtain ⟨a1, a2⟩ := List.pairwise_cons.1 ha
    obtain ⟨b1, b2⟩ := List.pairwise_cons.1 hb
    have hst : s = t := by
      rcases List.mem_cons.1 ((h s).1 (by simp)) with e | h1
      · exact e
      · rcases List.mem_cons.1 ((h t).2 (by simp)) with e | h2
        · exact e.symm
        · have := a1 t h2; have := b1 s h1; omega
    subst hst
    refine congrArg _ (inc_ext a2 b2 fun u => ⟨fun hu => ?_, fun hu => ?_⟩)
    · rcases List.mem_cons.1 ((h u).1 (by simp [hu])) with e | h1
      · subst e; have := a1 u hu; omega
      · exact h1
    · rcases List.mem_cons.1 ((h u).2 (by simp [hu])) with e | h1
      · subst e; have := b1 u hu; omega
      · exact h1
theorem srt_eq {a b : List Int} (h : a.Perm b) (hn : b.Nodup) : srt a = srt b := inc_ext (srt_inc (h.nodup_iff.2 hn)) (srt_inc hn) fun t => by rw [srt_mem, srt_mem, h.mem_iff]
theorem Ents.at_ {es dn l1 l2 : List (Int × Int)} {B : Nat} (h : Ents es B) {k v : Int} {lf : List (Int × Int)} (hp : (dn ++ lf).Perm es) (hl : lf = l1 ++ (k, v) :: l2) : (-(B : Int) ≤ k ∧ k ≤ B) ∧ wr v = v := h.2 (k, v) (hp.mem_iff.1 (by rw [hl]; simp))
theorem mk_snoc (dn : List (Int × Int)) (k v : Int) : mk (dn ++ [(k, v)]) = mk dn + mono k v := by
  rw [mk_append]
  show _ + (mono k v + Pol.o) = _
  rw [Pol.add_zero]
theorem plus_step {es dn ws : List (Int × Int)} {k v : Int} (h : mk es = mk ws + mk dn) : mk (mp k (wr ((mg k es).getD 0 + v)) es) = mk ws + mk (dn ++ [(k, v)]) := by
  rw [mk_mp_add, h, mk_snoc, Pol.add_assoc]
theorem times_step {es dn : List (Int × Int)} {p : Pol} {e c k v : Int} (h : mk es = p + mono e c * mk dn) : mk (mp (e + k) (wr ((mg (e + k) es).getD 0 + wr (c * v))) es) = p + mono e c * mk (dn ++ [(k, v)]) := by
  rw [mk_mp_add, h, mk_snoc, Pol.mul_add, mono_mul, Pol.add_assoc]
  exact congrArg _ (congrArg _ (mono_congr rfl (md_wr _)))
theorem shift_step {es dn lf l1 l2 ws : List (Int × Int)} {e c k v : Int} (hw : (ws.map Prod.fst).Nodup) (hp : (dn ++ lf).Perm ws) (hl : lf = l1 ++ (k, v) :: l2) (hk : es.map Prod.fst = dn.map fun q => q.1 + e) (h : mk es = mk dn * mono e c) :
    mk (mp (k + e) (wr (v * c)) es) = mk (dn ++ [(k, v)]) * mono e c ∧ (mp (k + e) (wr (v * c)) es).map Prod.fst = (dn ++ [(k, v)]).map fun q => q.1 + e := by
  have hn : k + e ∉ es.map Prod.fst := by
    rw [hk]
    intro hm
    obtain ⟨q, hq, e1⟩ := List.mem_map.1 hm
    have h1 : ((dn ++ lf).map Prod.fst).Nodup := (hp.map Prod.fst).nodup_iff.2 hw
    rw [List.map_append] at h1
    have h2 := (List.nodup_append.1 h1).2.2 q.1 (List.mem_map.2 ⟨q, hq, rfl⟩) k (List.mem_map.2 ⟨(k, v), by rw [hl]; simp, rfl⟩)
    exact h2 (by omega)
  constructor
  · rw [mk_mp, mg_none hn, h, mk_snoc, Pol.add_mul, mono_mul]
    exact congrArg _ (mono_congr rfl (by rw [Int.sub_zero]; exact md_wr _))
  · rw [mp_keys, if_neg hn, hk, List.map_append]; rfl
theorem of_step {es : List (Int × Int)} {a : List Tm} {i : Nat} (hi : i < a.length) (h : mk es = mk (pr (a.take i))) : mk (mp (ga a i).e (wr ((mg (ga a i).e es).getD 0 + (ga a i).c)) es) = mk (pr (a.take (i + 1))) := by
  rw [mk_mp_add, h, mk_take hi]

noncomputable def Collect_n0 : Code := Try.f142.body.getD .skip
noncomputable def Collect_n1 : Code := cL Collect_n0
noncomputable def Collect_n2 : Code := cR Collect_n0
noncomputable def Collect_n3 : Code := cL Collect_n2
noncomputable def Collect_n4 : Code := cR Collect_n2
set_option maxRecDepth 10000 in
theorem Collect_o {w : World} {M : Hp} {X : Fr} {es : List (Int × Int)} {gm b : Nat} (hm : MpOk (Value.int .i64) (Value.int .i64) gm es M) (hbx : BxM M b 87 [.map (some gm)]) (hks : (es.map Prod.fst).length ≤ 2199023255553) (S : SH w M X []) : Co Try.prog 142 [.func (.func 144) #[] [.pointer (some ⟨b, 0, none⟩)].toArray] w M X (fun u N => ∃ ks, ks.Perm (es.map Prod.fst) ∧ N = [Rs.row cdInt u ks]) := by
  unfold Co
  refine calls_in (b := Collect_n0) Try.func142 rfl Try.ntmps142 rfl (fun C hC => ?_)
  refine ws_sub [(0, _)] ⟨rfl, trivial⟩ ?_
  refine ws_seqN Collect_n1 Collect_n2 rfl rfl rfl ?_
  refine ws_region rfl ?_
  refine wl_op (k := 0) (k' := 1) rfl rfl rfl (wo_run rfl rfl (run_assign rfl rfl) ?_)
  refine wl_end rfl ?_
  refine nm_sub [(0, _)] ⟨rfl, trivial⟩ ?_
  refine nm_thn ?_
  refine ws_seqN Collect_n3 Collect_n4 rfl rfl rfl ?_
  refine ws_region rfl ?_
  refine wl_op (k := 0) (k' := 1) rfl rfl rfl (wo_run rfl rfl (run_move rfl rfl) ?_)
  refine wl_op (k := 1) (k' := 2) rfl rfl rfl (wo_co rfl rfl rfl rfl rfl rfl rfl cf160 S (InF.AppendSeq_o hm hbx hks S.lend) ?_)
  intro vw1 w1 Nw1 S1 hRw1; clear S
  obtain ⟨ksw1, hksw1, rfl⟩ := hRw1
  change SH _ _ _ [_] at S1
  refine wl_op (k := 2) (k' := 3) rfl rfl rfl (wo_run rfl rfl (run_assign rfl rfl) ?_)
  refine wl_end rfl ?_
  refine nm_sub [(2, _)] ⟨rfl, trivial⟩ ?_
  refine nm_thn ?_
  refine ws_ret hC [_] rfl rfl ⟨rfl, trivial⟩ ?_
  exact ⟨_, rfl, _, S1.pick [0] [_] (by decide) ⟨rfl, trivial⟩, _, hksw1, rfl⟩

noncomputable def Sorted_n0 : Code := Try.f105.body.getD .skip
noncomputable def Sorted_n1 : Code := cL Sorted_n0
noncomputable def Sorted_n2 : Code := cR Sorted_n0
noncomputable def Sorted_n3 : Code := cL Sorted_n2
noncomputable def Sorted_n4 : Code := cR Sorted_n2
noncomputable def Sorted_n5 : Code := cL Sorted_n4
noncomputable def Sorted_n6 : Code := cR Sorted_n4
noncomputable def Sorted_n7 : Code := cL Sorted_n6
noncomputable def Sorted_n8 : Code := cR Sorted_n6
set_option maxRecDepth 10000 in
theorem Sorted_o {w : World} {M : Hp} {X : Fr} {es : List (Int × Int)} {gm b : Nat} (hm : MpOk (Value.int .i64) (Value.int .i64) gm es M) (hbx : BxM M b 87 [.map (some gm)]) (hks : (es.map Prod.fst).length ≤ 2199023255553) (hn : (es.map Prod.fst).Nodup) (S : SH w M X []) : Co Try.prog 105 [.func (.func 144) #[] [.pointer (some ⟨b, 0, none⟩)].toArray] w M X (fun u N => N = [Rs.row cdInt u (srt (es.map Prod.fst))]) := by
  unfold Co
  refine calls_in (b := Sorted_n0) Try.func105 rfl Try.ntmps105 rfl (fun C hC => ?_)
  refine ws_sub [(0, _)] ⟨rfl, trivial⟩ ?_
  refine ws_seqN Sorted_n1 Sorted_n2 rfl rfl rfl ?_
  refine ws_region rfl ?_
  refine wl_op (k := 0) (k' := 1) rfl rfl rfl (wo_run rfl rfl (run_assign rfl rfl) ?_)
  refine wl_end rfl ?_
  refine nm_sub [(0, _)] ⟨rfl, trivial⟩ ?_
  refine nm_thn ?_
  refine ws_seqN Sorted_n3 Sorted_n4 rfl rfl rfl ?_
  refine ws_region rfl ?_
  refine wl_op (k := 0) (k' := 1) rfl rfl rfl (wo_run rfl rfl (run_move rfl rfl) ?_)
  refine wl_op (k := 1) (k' := 2) rfl rfl rfl (wo_co rfl rfl rfl rfl rfl rfl rfl cf142 S (Collect_o hm hbx hks S.lend) ?_)
  intro vw1 w1 Nw1 S1 hRw1; clear S
  obtain ⟨ksw1, hksw1, rfl⟩ := hRw1
  change SH _ _ _ [_] at S1
  refine wl_op (k := 2) (k' := 3) rfl rfl rfl (wo_run rfl rfl (run_assign rfl rfl) ?_)
  refine wl_end rfl ?_
  refine nm_sub [(3, _)] ⟨rfl, trivial⟩ ?_
  refine nm_thn ?_
  refine ws_seqN Sorted_n5 Sorted_n6 rfl rfl rfl ?_
  refine ws_region rfl ?_
  refine wl_op (k := 0) (k' := 1) rfl rfl rfl (wo_run rfl rfl (run_move rfl rfl) ?_)
  refine wl_op (k := 1) (k' := 2) rfl rfl rfl (wo_c1 rfl rfl rfl rfl rfl rfl rfl cf143 S1 (i := 0) rfl (sort_w (by have := hksw1.length_eq; omega) (S1.lend1 (i := 0) rfl)) ?_)
  rintro vw2 w2 _ _ - S2 ⟨rfl, rfl, rfl⟩; clear S1
  change SH _ _ _ [_] at S2
  refine wl_end rfl ?_
  refine nm_sub [(3, _)] ⟨rfl, trivial⟩ ?_
  refine nm_thn ?_
  refine ws_seqN Sorted_n7 Sorted_n8 rfl rfl rfl ?_
  refine ws_region rfl ?_
  refine wl_op (k := 0) (k' := 1) rfl rfl rfl (wo_run rfl rfl (run_move rfl rfl) ?_)
  refine wl_op (k := 1) (k' := 2) rfl rfl rfl (wo_run rfl rfl (run_assign rfl rfl) ?_)
  refine wl_end rfl ?_
  refine nm_sub [(2, _)] ⟨rfl, trivial⟩ ?_
  refine nm_thn ?_
  refine ws_ret hC [_] rfl rfl ⟨rfl, trivial⟩ ?_
  exact ⟨_, rfl, _, S2.pick [0] [_] (by decide) ⟨rfl, trivial⟩, by rw [srt_eq hksw1 hn]; rfl⟩

noncomputable def Form_n0 : Code := Try.f65.body.getD .skip
noncomputable def Form_n1 : Code := cL Form_n0
noncomputable def Form_n2 : Code := cR Form_n0
noncomputable def Form_n3 : Code := cL Form_n2
noncomputable def Form_n4 : Code := cR Form_n2
noncomputable def Form_n5 : Code := cL Form_n4
noncomputable def Form_n6 : Code := cR Form_n4
noncomputable def Form_n7 : Code := cL Form_n5
noncomputable def Form_n8 : Code := cR Form_n5
noncomputable def Form_n9 : Code := cL Form_n8
noncomputable def Form_n10 : Code := cL Form_n9
noncomputable def Form_n11 : Code := cL Form_n10
noncomputable def Form_n12 : Code := cR Form_n10
noncomputable def Form_n13 : Code := cL Form_n12
noncomputable def Form_n14 : Code := cR Form_n12
noncomputable def Form_n15 : Code := cL Form_n13
noncomputable def Form_n16 : Code := cR Form_n13
noncomputable def Form_n17 : Code := cL Form_n14
noncomputable def Form_n18 : Code := cR Form_n14
noncomputable def Form_n19 : Code := cL Form_n17
noncomputable def Form_n20 : Code := cL Form_n19
noncomputable def Form_n21 : Code := cR Form_n19
noncomputable def Form_n22 : Code := cL Form_n21
noncomputable def Form_n23 : Code := cR Form_n21
noncomputable def Form_n24 : Code := cL Form_n23
noncomputable def Form_n25 : Code := cR Form_n23
noncomputable def Form_n26 : Code := cL Form_n6
noncomputable def Form_n27 : Code := cR Form_n6
set_option maxRecDepth 10000 in
theorem Form_t {w : World} {M : Hp} {X : Fr} (es : List (Int × Int)) {ges : Nat} (hmes : MpOk (Value.int .i64) (Value.int .i64) ges es M) (B : Nat) (hes : Ents es B) (hB : B ≤ 1099511627776) (S : SH w M X []) : Ct Try.prog 65 [.map (some ges)] w M X (LsE (formL es)) := by
  unfold Ct
  have hks : (es.map Prod.fst).length ≤ 2199023255553 := by have := ents_len hes; rw [List.length_map]; omega
  refine calls_in (b := Form_n0) Try.func65 rfl Try.ntmps65 rfl (fun C hC => ?_)
  refine ws_sub [(0, _)] ⟨rfl, trivial⟩ ?_
  refine ws_seqN Form_n1 Form_n2 rfl rfl rfl ?_
  refine ws_region rfl ?_
  refine wl_op (k := 0) (k' := 1) rfl rfl rfl (wo_run rfl rfl (run_assign rfl rfl) ?_)
  refine wl_end rfl ?_
  refine nm_sub [(0, _)] ⟨rfl, trivial⟩ ?_
  refine nm_thn ?_
  refine ws_seqN Form_n3 Form_n4 rfl rfl rfl ?_
  refine ws_region rfl ?_
  refine wl_op (k := 0) (k' := 1) rfl rfl rfl (wo_run rfl rfl (run_assign rfl rfl) ?_)
  refine wl_end rfl ?_
  refine nm_thn ?_
  refine ws_seqN Form_n5 Form_n6 rfl rfl rfl ?_
  refine ws_seqN Form_n7 Form_n8 rfl rfl rfl ?_
  refine ws_region rfl ?_
  refine wl_op (k := 0) (k' := 1) rfl rfl rfl (wo_run rfl rfl (run_move rfl rfl) ?_)
  refine wl_op (k := 1) (k' := 2) rfl rfl rfl (wo_ct rfl rfl rfl rfl rfl rfl rfl cf106 S (Keys_t es hmes S.lend) ?_)
  intro vw1 w1 M1 hle1 S1 hRw1; clear S
  replace hmes := hmes.mono hle1
  obtain ⟨bk1, rfl, hbx1⟩ := hRw1
  refine wl_op (k := 2) (k' := 3) rfl rfl rfl (wo_co rfl rfl rfl rfl rfl rfl rfl cf105 S1 (Sorted_o hmes hbx1 hks hes.1 S1.lend) ?_)
  intro vw2 w2 Nw2 S2 hRw2; clear S1
  obtain rfl := hRw2
  change SH _ _ _ [_] at S2
  refine wl_op (k := 3) (k' := 4) rfl rfl rfl (wo_run rfl rfl (run_lenR (C := cdInt) (i := 0) rfl rfl rfl rfl rfl rfl sl36 S2 rfl) ?_)
  refine wl_op (k := 4) (k' := 5) rfl rfl rfl (wo_run rfl rfl (run_move rfl rfl) ?_)
  refine wl_end rfl ?_
  refine nm_sub [(0, _), (3, _), (8, _), (9, _), (10, _)] ⟨rfl, rfl, rfl, rfl, rfl, trivial⟩ ?_
  refine nm_thn ?_
  refine ws_blockN Form_n9 0 rfl rfl rfl ?_
  have S3 := S2.nilrow cdTm; clear S2
  refine ws_loopE (fun mx_ ax_ wx_ => ∃ (i : Nat) (acc : List Tm) (vro : Value), mx_ = (srt (es.map Prod.fst)).length - i ∧ Env 28 [(0, .map (some ges)), (3, vro), (8, vw2), (9, .int .i64 ((srt (es.map Prod.fst)).length : Int)), (10, .int .i64 (i : Int))] ax_ ∧ SH wx_ M1 X [Rs.row cdTm vro acc, Rs.row cdInt vw2 (srt (es.map Prod.fst))] ∧ i ≤ (srt (es.map Prod.fst)).length ∧ acc = fm es ((srt (es.map Prod.fst)).take i)) rfl ?_ ?_
  · intro ax_ hax_
    refine ⟨_, ⟨0, _, _, rfl, hax_.sub ⟨rfl, rfl, rfl, rfl, rfl, trivial⟩, S3.pick [0, 1] [_, _] (by decide) ⟨rfl, rfl, trivial⟩, ?hq1f0, ?hq1f1⟩⟩
    case hq1f0 => omega
    case hq1f1 => rfl
  · rintro m1 a1 w3 ⟨i, acc, vro, rfl, he1, S4, hi, hac⟩
    clear S3
    refine ws_in he1 (c := Form_n10) rfl ?_
    clear he1 a1
    have hal : acc.length ≤ i := by rw [hac]; exact Nat.le_trans (fm_len _ _) (by rw [List.length_take]; omega)
    have hsl := srt_len (es.map Prod.fst)
    refine ws_seqN Form_n11 Form_n12 rfl rfl rfl ?_
    refine ws_region rfl ?_
    refine wl_op (k := 0) (k' := 1) rfl rfl rfl (wo_run rfl rfl (run_lss rfl rfl rfl) ?_)
    refine wl_end rfl ?_
    refine nm_thn ?_
    refine ws_seqN Form_n13 Form_n14 rfl rfl rfl ?_
    refine ws_condN Form_n15 Form_n16 rfl rfl rfl rfl (fun hb11 => ?_) (fun hb11 => ?_)
    · have hb11 := of_decide_eq_true hb11
      refine ws_skip rfl ?_
      refine nm_sub [(0, _), (3, _), (8, _), (9, _), (10, _)] ⟨rfl, rfl, rfl, rfl, rfl, trivial⟩ ?_
      refine nm_thn ?_
      refine ws_seqN Form_n17 Form_n18 rfl rfl rfl ?_
      refine ws_blockN Form_n19 1 rfl rfl rfl ?_
      refine ws_seqN Form_n20 Form_n21 rfl rfl rfl ?_
      refine ws_region rfl ?_
      refine wl_op (k := 0) (k' := 1) rfl rfl rfl (wo_run rfl rfl (run_indexR (C := cdInt) (i := 1) i rfl rfl rfl sl36 S4 rfl (by first | rfl | omega) (by first | omega | (simp only [List.length_set, List.length_append, List.length_replicate, List.length_singleton, List.length_cons, List.length_nil]; omega))) ?_)
      refine wl_op (k := 1) (k' := 2) rfl rfl rfl (wo_run rfl rfl (run_load1 rfl rfl Try.underlying3 rfl (S4.rowc (i := 1) (e := i) (j := 0) rfl (by first | omega | (simp only [List.length_set, List.length_append, List.length_replicate, List.length_singleton, List.length_cons, List.length_nil]; omega)) rfl rfl)) ?_)
      refine wl_op (k := 2) (k' := 3) rfl rfl rfl (wo_run rfl rfl (run_assign rfl rfl) ?_)
      refine wl_end rfl ?_
      refine nm_sub [(0, _), (3, _), (8, _), (9, _), (10, _), (5, _)] ⟨rfl, rfl, rfl, rfl, rfl, rfl, trivial⟩ ?_
      refine nm_thn ?_
      refine ws_seqN Form_n22 Form_n23 rfl rfl rfl ?_
      refine ws_region rfl ?_
      refine wl_op (k := 0) (k' := 1) rfl rfl rfl (wo_run rfl rfl (run_move rfl rfl) ?_)
      refine wl_op (k := 1) (k' := 2) rfl rfl rfl (wo_run rfl rfl (run_move rfl rfl) ?_)
      refine wl_op (k := 2) (k' := 3) rfl rfl rfl (wo_run rfl rfl (run_lookupM (kc := (Value.int .i64)) (vc := (Value.int .i64)) (es := es) (k := (ga (srt (es.map Prod.fst)) i)) (zv := 0) rfl rfl rfl Try.underlying87 mk3 zr3 hmes S4.m) ?_)
      refine wl_op (k := 3) (k' := 4) rfl rfl rfl (wo_run rfl rfl (run_neq rfl rfl rfl) ?_)
      refine wl_end rfl ?_
      refine nm_sub [(0, _), (3, _), (8, _), (9, _), (10, _), (5, _), (17, _)] ⟨rfl, rfl, rfl, rfl, rfl, rfl, rfl, trivial⟩ ?_
      refine nm_thn ?_
      refine ws_condN Form_n24 Form_n25 rfl rfl rfl rfl (fun hb17 => ?_) (fun hb17 => ?_)
      · have hb17 := of_decide_eq_true hb17
        refine ws_region rfl ?_
        refine wl_op (k := 0) (k' := 1) rfl rfl rfl (wo_run rfl rfl (run_move rfl rfl) ?_)
        refine wl_op (k := 1) (k' := 2) rfl rfl rfl (wo_run rfl rfl (run_move rfl rfl) ?_)
        refine wl_op (k := 2) (k' := 3) rfl rfl rfl (wo_run rfl rfl (run_move rfl rfl) ?_)
        refine wl_op (k := 3) (k' := 4) rfl rfl rfl (wo_run rfl rfl (run_move rfl rfl) ?_)
        refine wl_op (k := 4) (k' := 5) rfl rfl rfl (wo_run rfl rfl (run_lookupM (kc := (Value.int .i64)) (vc := (Value.int .i64)) (es := es) (k := (ga (srt (es.map Prod.fst)) i)) (zv := 0) rfl rfl rfl Try.underlying87 mk3 zr3 hmes S4.m) ?_)
        refine wl_op (k := 5) (k' := 6) rfl rfl rfl (wo_run rfl rfl (run_build (l := [_, _]) rfl rfl st89 rfl rfl) ?_)
        refine wl_op (k := 6) (k' := 7) rfl rfl rfl (wo_buildSlice1 (C := cdTm) (l := [_, _]) rfl rfl rfl rfl sl22 rfl rfl rfl rfl S4 ?_)
        intro gb1 w4 S5; clear S4
        refine wl_op (k := 7) (k' := 8) rfl rfl rfl (wo_append1 (C := cdTm) (i := 1) (q := 0) (⟨ga (srt (es.map Prod.fst)) i, (mg (ga (srt (es.map Prod.fst)) i) es).getD 0⟩ : Tm) rfl rfl rfl rfl rfl rfl rfl rfl sl22 S5 rfl rfl rfl (by show (_ + 1) * 16 ≤ _; omega) ?_)
        intro vro1 w5 S6; clear S5
        have S7 := S6.pick [1, 2] [_, _] (by decide) ⟨rfl, rfl, trivial⟩; clear S6
        refine wl_op (k := 8) (k' := 9) rfl rfl rfl (wo_run rfl rfl (run_assign rfl rfl) ?_)
        refine wl_end rfl ?_
        refine nm_blk ?_
        refine nm_sub [(0, _), (3, _), (8, _), (9, _), (10, _)] ⟨rfl, rfl, rfl, rfl, rfl, trivial⟩ ?_
        refine nm_thn ?_
        refine ws_region rfl ?_
        refine wl_op (k := 0) (k' := 1) rfl rfl rfl (wo_run rfl rfl (run_add rfl rfl rfl (by first | omega | (simp only [List.length_set, List.length_append, List.length_replicate, List.length_singleton, List.length_cons, List.length_nil]; omega))) ?_)
        refine wl_op (k := 1) (k' := 2) rfl rfl rfl (wo_run rfl rfl (run_move rfl rfl) ?_)
        refine wl_end rfl ?_
        refine nm_lp ?_
        intro ax_ hax_
        refine ⟨_, ?hq2m, ⟨i + 1, _, _, rfl, hax_.sub ⟨rfl, rfl, rfl, rfl, rfl, trivial⟩, S7.pick [0, 1] [_, _] (by decide) ⟨rfl, rfl, trivial⟩, ?hq2f0, ?hq2f1⟩⟩
        case hq2f0 => omega
        case hq2f1 => (rw [take_ga _ i (by omega), fm_snoc, ← hac]; first | (rw [if_neg (by assumption)]) | (rw [if_pos (by omega), List.append_nil]))
        case hq2m => omega
      · have hb17 := of_decide_eq_false hb17
        refine ws_skip rfl ?_
        refine nm_blk ?_
        refine nm_sub [(0, _), (3, _), (8, _), (9, _), (10, _)] ⟨rfl, rfl, rfl, rfl, rfl, trivial⟩ ?_
        refine nm_thn ?_
        refine ws_region rfl ?_
        refine wl_op (k := 0) (k' := 1) rfl rfl rfl (wo_run rfl rfl (run_add rfl rfl rfl (by first | omega | (simp only [List.length_set, List.length_append, List.length_replicate, List.length_singleton, List.length_cons, List.length_nil]; omega))) ?_)
        refine wl_op (k := 1) (k' := 2) rfl rfl rfl (wo_run rfl rfl (run_move rfl rfl) ?_)
        refine wl_end rfl ?_
        refine nm_lp ?_
        intro ax_ hax_
        refine ⟨_, ?hq3m, ⟨i + 1, _, _, rfl, hax_.sub ⟨rfl, rfl, rfl, rfl, rfl, trivial⟩, S4.pick [0, 1] [_, _] (by decide) ⟨rfl, rfl, trivial⟩, ?hq3f0, ?hq3f1⟩⟩
        case hq3f0 => omega
        case hq3f1 => (rw [take_ga _ i (by omega), fm_snoc, ← hac]; first | (rw [if_neg (by assumption)]) | (rw [if_pos (by omega), List.append_nil]))
        case hq3m => omega
    · have hb11 := of_decide_eq_false hb11
      refine ws_exit rfl rfl ?_
      refine nm_sub [(3, _)] ⟨rfl, trivial⟩ ?_
      refine nm_thn ?_
      refine ws_seqN Form_n26 Form_n27 rfl rfl rfl ?_
      have hsl := srt_len (es.map Prod.fst)
      refine ws_region rfl ?_
      refine wl_op (k := 0) (k' := 1) rfl rfl rfl (wo_run rfl rfl (run_move rfl rfl) ?_)
      refine wl_op (k := 1) (k' := 2) rfl rfl rfl (wo_run rfl rfl (run_assign rfl rfl) ?_)
      refine wl_end rfl ?_
      refine nm_sub [(2, _)] ⟨rfl, trivial⟩ ?_
      refine nm_thn ?_
      have hal : acc.length ≤ 2199023255553 := by rw [hac]; exact Nat.le_trans (fm_len _ _) (by rw [List.length_take]; omega)
      obtain ⟨M2, hle3, S8, ⟨A1, c1, e1, hr1⟩⟩ := S4.pubrow (i := 0) (H' := [_, _]) rfl rfl (by show _ * 16 ≤ _; first | omega | (simp only [List.length_set, List.length_append, List.length_replicate, List.length_singleton, List.length_cons, List.length_nil]; omega))
      clear S4; subst e1
      replace hmes := hmes.mono hle3
      replace hbx1 := hbx1.mono hle3
      refine ws_ret hC [_] rfl rfl ⟨rfl, trivial⟩ ?_
      refine ⟨_, rfl, _, hle1.trans hle3, (S8.pick [] [] (by decide) trivial), ?_⟩
      obtain rfl : i = (srt (es.map Prod.fst)).length := by omega
      rw [List.take_length] at hac
      have e9 : formL es = acc := hac.symm
      rw [e9]
      exact ⟨_, _, rfl, hr1⟩

noncomputable def Of_n0 : Code := Try.f75.body.getD .skip
noncomputable def Of_n1 : Code := cL Of_n0
noncomputable def Of_n2 : Code := cR Of_n0
noncomputable def Of_n3 : Code := cL Of_n2
noncomputable def Of_n4 : Code := cR Of_n2
noncomputable def Of_n5 : Code := cL Of_n4
noncomputable def Of_n6 : Code := cR Of_n4
noncomputable def Of_n7 : Code := cL Of_n5
noncomputable def Of_n8 : Code := cR Of_n5
noncomputable def Of_n9 : Code := cL Of_n8
noncomputable def Of_n10 : Code := cL Of_n9
noncomputable def Of_n11 : Code := cL Of_n10
noncomputable def Of_n12 : Code := cR Of_n10
noncomputable def Of_n13 : Code := cL Of_n12
noncomputable def Of_n14 : Code := cR Of_n12
noncomputable def Of_n15 : Code := cL Of_n13
noncomputable def Of_n16 : Code := cR Of_n13
noncomputable def Of_n17 : Code := cL Of_n14
noncomputable def Of_n18 : Code := cR Of_n14
noncomputable def Of_n19 : Code := cL Of_n17
noncomputable def Of_n20 : Code := cL Of_n19
noncomputable def Of_n21 : Code := cR Of_n19
noncomputable def Of_n22 : Code := cL Of_n6
noncomputable def Of_n23 : Code := cR Of_n6
set_option maxRecDepth 10000 in
theorem Of_t {w : World} {M : Hp} {X : Fr} (a : List Tm) {aA : Option Addr} {ac : Nat} (ha : RdA cdTm (M.un X.h) aA ac a) (B : Nat) (hba : Bd a B) (S : SH w M X []) : Ct Try.prog 75 [.slice aA a.length ac] w M X (WkR B (mk (pr a))) := by
  unfold Ct
  have rmha : a.length * 16 ≤ 140737488355328 := ha.room
  refine calls_in (b := Of_n0) Try.func75 rfl Try.ntmps75 rfl (fun C hC => ?_)
  refine ws_sub [(0, _)] ⟨rfl, trivial⟩ ?_
  refine ws_seqN Of_n1 Of_n2 rfl rfl rfl ?_
  refine ws_region rfl ?_
  refine wl_op (k := 0) (k' := 1) rfl rfl rfl (wo_run rfl rfl (run_assign rfl rfl) ?_)
  refine wl_end rfl ?_
  refine nm_sub [(0, _)] ⟨rfl, trivial⟩ ?_
  refine nm_thn ?_
  refine ws_seqN Of_n3 Of_n4 rfl rfl rfl ?_
  refine ws_region rfl ?_
  refine wl_op (k := 0) (k' := 1) rfl rfl rfl (wo_makeMap Int Int (Value.int .i64) (Value.int .i64) rfl rfl rfl S ?_)
  intro gm1 w1 S1; clear S
  refine wl_op (k := 1) (k' := 2) rfl rfl rfl (wo_run rfl rfl (run_assign rfl rfl) ?_)
  refine wl_end rfl ?_
  refine nm_sub [(0, _), (3, _)] ⟨rfl, rfl, trivial⟩ ?_
  refine nm_thn ?_
  refine ws_seqN Of_n5 Of_n6 rfl rfl rfl ?_
  refine ws_seqN Of_n7 Of_n8 rfl rfl rfl ?_
  refine ws_region rfl ?_
  refine wl_op (k := 0) (k' := 1) rfl rfl rfl (wo_run rfl rfl (run_move rfl rfl) ?_)
  refine wl_op (k := 1) (k' := 2) rfl rfl rfl (wo_run rfl rfl (run_len rfl rfl rfl rfl rfl rfl Try.underlying22) ?_)
  refine wl_op (k := 2) (k' := 3) rfl rfl rfl (wo_run rfl rfl (run_move rfl rfl) ?_)
  refine wl_end rfl ?_
  refine nm_sub [(3, _), (7, _), (8, _), (9, _)] ⟨rfl, rfl, rfl, rfl, trivial⟩ ?_
  refine nm_thn ?_
  refine ws_blockN Of_n9 0 rfl rfl rfl ?_
  refine ws_loopE (fun mx_ ax_ wx_ => ∃ (i : Nat) (es : List (Int × Int)), mx_ = a.length - i ∧ Env 22 [(3, .map (some gm1)), (7, .slice aA a.length ac), (8, .int .i64 (a.length : Int)), (9, .int .i64 (i : Int))] ax_ ∧ SH wx_ M X [Rs.mp (Value.int .i64) (Value.int .i64) gm1 es] ∧ i ≤ a.length ∧ Ents es B ∧ mk es = mk (pr (a.take i))) rfl ?_ ?_
  · intro ax_ hax_
    refine ⟨_, ⟨0, [], rfl, hax_.sub ⟨rfl, rfl, rfl, rfl, trivial⟩, S1.pick [0] [_] (by decide) ⟨rfl, trivial⟩, ?hq1f0, ?hq1f1, ?hq1f2⟩⟩
    case hq1f0 => omega
    case hq1f1 => exact Ents.nil_ B
    case hq1f2 => rfl
  · rintro m2 a1 w2 ⟨i, es, rfl, he1, S2, hi, hes, hmk⟩
    clear S1
    refine ws_in he1 (c := Of_n10) rfl ?_
    clear he1 a1
    refine ws_seqN Of_n11 Of_n12 rfl rfl rfl ?_
    refine ws_region rfl ?_
    refine wl_op (k := 0) (k' := 1) rfl rfl rfl (wo_run rfl rfl (run_lss rfl rfl rfl) ?_)
    refine wl_end rfl ?_
    refine nm_thn ?_
    refine ws_seqN Of_n13 Of_n14 rfl rfl rfl ?_
    refine ws_condN Of_n15 Of_n16 rfl rfl rfl rfl (fun hb10 => ?_) (fun hb10 => ?_)
    · have hb10 := of_decide_eq_true hb10
      refine ws_skip rfl ?_
      refine nm_sub [(3, _), (7, _), (8, _), (9, _)] ⟨rfl, rfl, rfl, rfl, trivial⟩ ?_
      refine nm_thn ?_
      refine ws_seqN Of_n17 Of_n18 rfl rfl rfl ?_
      refine ws_blockN Of_n19 1 rfl rfl rfl ?_
      refine ws_seqN Of_n20 Of_n21 rfl rfl rfl ?_
      refine ws_region rfl ?_
      refine wl_op (k := 0) (k' := 1) rfl rfl rfl (wo_run rfl rfl (run_indexM (C := cdTm) i rfl rfl rfl sl22 (by first | rfl | omega) ha (by first | omega | (simp only [List.length_set, List.length_append, List.length_replicate, List.length_singleton, List.length_cons, List.length_nil]; omega))) ?_)
      refine wl_op (k := 1) (k' := 2) rfl rfl rfl (wo_run rfl rfl (run_loadN (us := [_, _]) rfl rfl Try.underlying89 rfl sz89 (ha.cellsAt S2.um (e := i) (by first | omega | (simp only [List.length_set, List.length_append, List.length_replicate, List.length_singleton, List.length_cons, List.length_nil]; omega)) (j := 0) ⟨rfl, rfl, trivial⟩)) ?_)
      refine wl_op (k := 2) (k' := 3) rfl rfl rfl (wo_alloc (l := [_, _]) rfl rfl rfl zr89 rfl S2 ?_)
      intro gb1 w3 S3; clear S2
      refine wl_op (k := 3) (k' := 4) rfl rfl rfl (wo_storeB (i := 0) (us := [_, _]) (l' := [_, _]) (H' := [_, _]) rfl rfl S3 rfl rfl rfl rfl sz89 rfl rfl rfl rfl ?_)
      intro w4 S4; clear S3
      refine wl_end rfl ?_
      refine nm_sub [(3, _), (7, _), (8, _), (9, _), (5, _)] ⟨rfl, rfl, rfl, rfl, rfl, trivial⟩ ?_
      refine nm_thn ?_
      refine ws_region rfl ?_
      refine wl_op (k := 0) (k' := 1) rfl rfl rfl (wo_run rfl rfl (run_move rfl rfl) ?_)
      refine wl_op (k := 1) (k' := 2) rfl rfl rfl (wo_run rfl rfl (run_fieldAddr rfl rfl Try.underlying89 rfl (ce3) (nf3)) ?_)
      refine wl_op (k := 2) (k' := 3) rfl rfl rfl (wo_run rfl rfl (run_load1 rfl rfl Try.underlying3 rfl (S4.boxc (i := 0) rfl rfl)) ?_)
      refine wl_op (k := 3) (k' := 4) rfl rfl rfl (wo_run rfl rfl (run_lookup (kc := Value.int .i64) (vc := Value.int .i64) (es := es) (k := ((ga a i).e)) (zv := 0) (i := 1) rfl rfl rfl Try.underlying87 mk3 zr3 S4 rfl) ?_)
      refine wl_op (k := 4) (k' := 5) rfl rfl rfl (wo_run rfl rfl (run_fieldAddr rfl rfl Try.underlying89 rfl (ce3) (nf3)) ?_)
      refine wl_op (k := 5) (k' := 6) rfl rfl rfl (wo_run rfl rfl (run_load1 rfl rfl Try.underlying3 rfl (S4.boxc (i := 0) rfl rfl)) ?_)
      refine wl_op (k := 6) (k' := 7) rfl rfl rfl (wo_run rfl rfl (run_addW rfl rfl rfl) ?_)
      refine wl_op (k := 7) (k' := 8) rfl rfl rfl (wo_mapUpdate (kc := Value.int .i64) (vc := Value.int .i64) (es := es) (k := ((ga a i).e)) (e := (wr (((mg ((ga a i).e) es).getD 0) + ((ga a i).c)))) (i := 1) (H' := [_, _]) (.inl rfl) rfl S4 rfl rfl rfl rfl Try.underlying87 mk3 rfl ?_)
      intro w5 S5; clear S4
      refine wl_end rfl ?_
      refine nm_blk ?_
      refine nm_sub [(3, _), (7, _), (8, _), (9, _)] ⟨rfl, rfl, rfl, rfl, trivial⟩ ?_
      refine nm_thn ?_
      refine ws_region rfl ?_
      refine wl_op (k := 0) (k' := 1) rfl rfl rfl (wo_run rfl rfl (run_add rfl rfl rfl (by first | omega | (simp only [List.length_set, List.length_append, List.length_replicate, List.length_singleton, List.length_cons, List.length_nil]; omega))) ?_)
      refine wl_op (k := 1) (k' := 2) rfl rfl rfl (wo_run rfl rfl (run_move rfl rfl) ?_)
      refine wl_end rfl ?_
      refine nm_lp ?_
      intro ax_ hax_
      refine ⟨_, ?hq2m, ⟨i + 1, _, rfl, hax_.sub ⟨rfl, rfl, rfl, rfl, trivial⟩, S5.pick [1] [_] (by decide) ⟨rfl, trivial⟩, ?hq2f0, ?hq2f1, ?hq2f2⟩⟩
      case hq2f0 => omega
      case hq2f1 => exact mp_ents hes (bd_at hba (by omega)) (wr_idem _)
      case hq2f2 => exact of_step (by omega) hmk
      case hq2m => omega
    · have hb10 := of_decide_eq_false hb10
      refine ws_exit rfl rfl ?_
      refine nm_sub [(3, _)] ⟨rfl, trivial⟩ ?_
      refine nm_thn ?_
      refine ws_seqN Of_n22 Of_n23 rfl rfl rfl ?_
      refine ws_region rfl ?_
      refine wl_op (k := 0) (k' := 1) rfl rfl rfl (wo_run rfl rfl (run_move rfl rfl) ?_)
      refine wl_op (k := 1) (k' := 2) rfl rfl rfl (wo_run rfl rfl (run_assign rfl rfl) ?_)
      refine wl_end rfl ?_
      refine nm_sub [(2, _)] ⟨rfl, trivial⟩ ?_
      refine nm_thn ?_
      obtain ⟨M1, hle2, S6, hm1⟩ := S2.pubmap (i := 0) (H' := [_]) rfl rfl; clear S2
      replace ha := ha.mono (Hp.un_mono hle2 S6.mx)
      refine ws_ret hC [_] rfl rfl ⟨rfl, trivial⟩ ?_
      refine ⟨_, rfl, _, hle2, (S6.pick [] [] (by decide) trivial), ?_⟩
      obtain rfl : i = a.length := by omega
      rw [List.take_length] at hmk
      exact ⟨_, rfl, _, hm1, hes, hmk⟩

noncomputable def Plus_n0 : Code := Try.f60.body.getD .skip
noncomputable def Plus_n1 : Code := cL Plus_n0
noncomputable def Plus_n2 : Code := cR Plus_n0
noncomputable def Plus_n3 : Code := cL Plus_n2
noncomputable def Plus_n4 : Code := cR Plus_n2
noncomputable def Plus_n5 : Code := cL Plus_n4
noncomputable def Plus_n6 : Code := cR Plus_n4
noncomputable def Plus_n7 : Code := cL Plus_n5
noncomputable def Plus_n8 : Code := cR Plus_n5
noncomputable def Plus_n9 : Code := cL Plus_n8
noncomputable def Plus_n10 : Code := cL Plus_n9
noncomputable def Plus_n11 : Code := cL Plus_n10
noncomputable def Plus_n12 : Code := cR Plus_n10
noncomputable def Plus_n13 : Code := cL Plus_n12
noncomputable def Plus_n14 : Code := cR Plus_n12
noncomputable def Plus_n15 : Code := cL Plus_n13
noncomputable def Plus_n16 : Code := cR Plus_n13
noncomputable def Plus_n17 : Code := cL Plus_n6
noncomputable def Plus_n18 : Code := cR Plus_n6
noncomputable def Plus_n19 : Code := cL Plus_n14
noncomputable def Plus_n20 : Code := cL Plus_n19
noncomputable def Plus_n21 : Code := cR Plus_n19
set_option maxRecDepth 10000 in
theorem Plus_t {w : World} {M : Hp} {X : Fr} (ws : List (Int × Int)) {gws : Nat} (vs : List (Int × Int)) {gvs : Nat} (hmws : MpOk (Value.int .i64) (Value.int .i64) gws ws M) (hmvs : MpOk (Value.int .i64) (Value.int .i64) gvs vs M) (B : Nat) (hws : Ents ws B) (hvs : Ents vs B) (S : SH w M X []) : Ct Try.prog 60 [.map (some gws), .map (some gvs)] w M X (WkR B (mk ws + mk vs)) := by
  unfold Ct
  refine calls_in (b := Plus_n0) Try.func60 rfl Try.ntmps60 rfl (fun C hC => ?_)
  refine ws_sub [(0, _), (1, _)] ⟨rfl, rfl, trivial⟩ ?_
  refine ws_seqN Plus_n1 Plus_n2 rfl rfl rfl ?_
  refine ws_region rfl ?_
  refine wl_op (k := 0) (k' := 1) rfl rfl rfl (wo_run rfl rfl (run_assign rfl rfl) ?_)
  refine wl_end rfl ?_
  refine nm_sub [(0, _), (1, _)] ⟨rfl, rfl, trivial⟩ ?_
  refine nm_thn ?_
  refine ws_seqN Plus_n3 Plus_n4 rfl rfl rfl ?_
  refine ws_region rfl ?_
  refine wl_op (k := 0) (k' := 1) rfl rfl rfl (wo_run rfl rfl (run_move rfl rfl) ?_)
  refine wl_op (k := 1) (k' := 2) rfl rfl rfl (wo_co rfl rfl rfl rfl rfl rfl rfl cf103 S (Clone_o (hmws.mono (Hp.le_un _ _)) S.lend) ?_)
  intro vw1 w1 Nw1 S1 hRw1; clear S
  obtain ⟨gmc1, rfl, rfl⟩ := hRw1
  change SH _ _ _ [_] at S1
  refine wl_op (k := 2) (k' := 3) rfl rfl rfl (wo_run rfl rfl (run_assign rfl rfl) ?_)
  refine wl_end rfl ?_
  refine nm_sub [(1, _), (5, _)] ⟨rfl, rfl, trivial⟩ ?_
  refine nm_thn ?_
  refine ws_seqN Plus_n5 Plus_n6 rfl rfl rfl ?_
  refine ws_seqN Plus_n7 Plus_n8 rfl rfl rfl ?_
  refine ws_region rfl ?_
  refine wl_op (k := 0) (k' := 1) rfl rfl rfl (wo_run rfl rfl (run_move rfl rfl) ?_)
  obtain ⟨arr1, clk1, hE1⟩ := hmvs.ents
  refine wl_op (k := 1) (k' := 2) rfl rfl rfl (wo_range rfl rfl rfl rfl Try.underlying87 S1 hE1 S1.m ?_)
  intro r1 w2 S2; clear S1
  refine wl_end rfl ?_
  refine nm_sub [(5, _), (11, _)] ⟨rfl, rfl, trivial⟩ ?_
  refine nm_thn ?_
  refine ws_blockN Plus_n9 0 rfl rfl rfl ?_
  refine ws_loopE (fun mx_ ax_ wx_ => ∃ (sn : Array Nat) (dn : List (Int × Int)) (lf : List (Int × Int)) (es : List (Int × Int)), mx_ = lf.length ∧ Env 23 [(5, .map (some gmc1)), (11, .pointer (some ⟨r1, 0, none⟩))] ax_ ∧ SH wx_ M X [Rs.itr gvs clk1 r1 sn, Rs.mp (Value.int .i64) (Value.int .i64) gmc1 es] ∧ Lft (Value.int .i64) (Value.int .i64) arr1 sn lf ∧ (dn ++ lf).Perm vs ∧ Ents es B ∧ mk es = mk ws + mk dn) rfl ?_ ?_
  · intro ax_ hax_
    refine ⟨_, ⟨#[], [], vs, ws, rfl, hax_.sub ⟨rfl, rfl, trivial⟩, S2.pick [0, 1] [_, _] (by decide) ⟨rfl, rfl, trivial⟩, ?hq1f0, ?hq1f1, ?hq1f2, ?hq1f3⟩⟩
    case hq1f0 => exact hE1.lft
    case hq1f1 => exact List.Perm.refl _
    case hq1f2 => exact hws
    case hq1f3 => exact (Pol.add_zero _).symm
  · rintro m1 a1 w3 ⟨sn, dn, lf, es, rfl, he1, S3, hlf, hpm, hes, hmk⟩
    clear S2
    refine ws_in he1 (c := Plus_n10) rfl ?_
    clear he1 a1
    refine ws_seqN Plus_n11 Plus_n12 rfl rfl rfl ?_
    refine ws_region rfl ?_
    refine wl_op (k := 0) (k' := 1) rfl rfl rfl (wo_next (i := 0) rfl rfl rfl rfl S3 rfl hE1 S3.m hlf (fun hlf1 => ?_) (fun k1 v1 l1_1 l2_1 sn1 w4 hlf1 hlft1 hlst1 S4 => ?_))
    · refine wl_op (k := 1) (k' := 2) rfl rfl rfl (wo_run rfl rfl (run_extract rfl rfl rfl) ?_)
      refine wl_end rfl ?_
      refine nm_sub [(5, _), (11, _), (13, _)] ⟨rfl, rfl, rfl, trivial⟩ ?_
      refine nm_thn ?_
      refine ws_seqN Plus_n13 Plus_n14 rfl rfl rfl ?_
      refine ws_condFN Plus_n16 rfl rfl rfl ?_
      refine ws_exit rfl rfl ?_
      refine nm_sub [(5, _)] ⟨rfl, trivial⟩ ?_
      refine nm_thn ?_
      refine ws_seqN Plus_n17 Plus_n18 rfl rfl rfl ?_
      refine ws_region rfl ?_
      refine wl_op (k := 0) (k' := 1) rfl rfl rfl (wo_run rfl rfl (run_move rfl rfl) ?_)
      refine wl_op (k := 1) (k' := 2) rfl rfl rfl (wo_run rfl rfl (run_assign rfl rfl) ?_)
      refine wl_end rfl ?_
      refine nm_sub [(4, _)] ⟨rfl, trivial⟩ ?_
      refine nm_thn ?_
      obtain ⟨M1, hle2, S5, hm1⟩ := S3.pubmap (i := 1) (H' := [_, _]) rfl rfl; clear S3
      replace hmws := hmws.mono hle2
      replace hmvs := hmvs.mono hle2
      replace hE1 := hE1.mono hle2
      refine ws_ret hC [_] rfl rfl ⟨rfl, trivial⟩ ?_
      refine ⟨_, rfl, _, hle2, (S5.pick [] [] (by decide) trivial), ?_⟩
      obtain rfl : lf = [] := hlf1
      rw [List.append_nil] at hpm
      exact ⟨_, rfl, _, hm1, hes, by rw [hmk, mk_perm hpm]⟩
    · clear S3
      change SH _ _ _ [Rs.itr gvs clk1 r1 sn1, _] at S4
      refine wl_op (k := 1) (k' := 2) rfl rfl rfl (wo_run rfl rfl (run_extract rfl rfl rfl) ?_)
      refine wl_end rfl ?_
      refine nm_sub [(5, _), (11, _), (13, _)] ⟨rfl, rfl, rfl, trivial⟩ ?_
      refine nm_thn ?_
      refine ws_seqN Plus_n13 Plus_n14 rfl rfl rfl ?_
      refine ws_condTN Plus_n15 rfl rfl rfl ?_
      refine ws_skip rfl ?_
      refine nm_sub [(5, _), (11, _)] ⟨rfl, rfl, trivial⟩ ?_
      refine nm_thn ?_
      refine ws_blockN Plus_n19 1 rfl rfl rfl ?_
      refine ws_seqN Plus_n20 Plus_n21 rfl rfl rfl ?_
      refine ws_region rfl ?_
      refine wl_op (k := 0) (k' := 1) rfl rfl rfl (wo_run rfl rfl (run_entry (i := 0) rfl rfl S4 rfl hE1 S4.m hlst1) ?_)
      refine wl_op (k := 1) (k' := 2) rfl rfl rfl (wo_run rfl rfl (run_extract rfl rfl rfl) ?_)
      refine wl_op (k := 2) (k' := 3) rfl rfl rfl (wo_run rfl rfl (run_extract rfl rfl rfl) ?_)
      refine wl_op (k := 3) (k' := 4) rfl rfl rfl (wo_run rfl rfl (run_assign rfl rfl) ?_)
      refine wl_op (k := 4) (k' := 5) rfl rfl rfl (wo_run rfl rfl (run_assign rfl rfl) ?_)
      refine wl_end rfl ?_
      refine nm_sub [(5, _), (11, _), (6, _), (7, _)] ⟨rfl, rfl, rfl, rfl, trivial⟩ ?_
      refine nm_thn ?_
      refine ws_region rfl ?_
      refine wl_op (k := 0) (k' := 1) rfl rfl rfl (wo_run rfl rfl (run_move rfl rfl) ?_)
      refine wl_op (k := 1) (k' := 2) rfl rfl rfl (wo_run rfl rfl (run_move rfl rfl) ?_)
      refine wl_op (k := 2) (k' := 3) rfl rfl rfl (wo_run rfl rfl (run_lookup (kc := Value.int .i64) (vc := Value.int .i64) (es := es) (k := k1) (zv := 0) (i := 1) rfl rfl rfl Try.underlying87 mk3 zr3 S4 rfl) ?_)
      refine wl_op (k := 3) (k' := 4) rfl rfl rfl (wo_run rfl rfl (run_move rfl rfl) ?_)
      refine wl_op (k := 4) (k' := 5) rfl rfl rfl (wo_run rfl rfl (run_addW rfl rfl rfl) ?_)
      refine wl_op (k := 5) (k' := 6) rfl rfl rfl (wo_mapUpdate (kc := Value.int .i64) (vc := Value.int .i64) (es := es) (k := k1) (e := (wr (((mg k1 es).getD 0) + v1))) (i := 1) (H' := [_, _]) (.inl rfl) rfl S4 rfl rfl rfl rfl Try.underlying87 mk3 rfl ?_)
      intro w5 S6; clear S4
      refine wl_end rfl ?_
      refine nm_blk ?_
      refine nm_lp ?_
      intro ax_ hax_
      refine ⟨_, ?hq2m, ⟨sn1, dn ++ [(k1, v1)], l1_1 ++ l2_1, _, rfl, hax_.sub ⟨rfl, rfl, trivial⟩, S6.pick [0, 1] [_, _] (by decide) ⟨rfl, rfl, trivial⟩, ?hq2f0, ?hq2f1, ?hq2f2, ?hq2f3⟩⟩
      case hq2f0 => assumption
      case hq2f1 => (refine List.Perm.trans ?_ hpm; simp only [*, List.append_assoc, List.cons_append, List.nil_append]; exact (List.perm_append_left_iff _).2 (List.perm_middle.symm))
      case hq2f2 => exact mp_ents hes (hvs.at_ hpm (by assumption)).1 (wr_idem _)
      case hq2f3 => exact plus_step hmk
      case hq2m => (simp only [*, List.length_append, List.length_cons]; omega)

noncomputable def Times_n0 : Code := Try.f61.body.getD .skip
noncomputable def Times_n1 : Code := cL Times_n0
noncomputable def Times_n2 : Code := cR Times_n0
noncomputable def Times_n3 : Code := cL Times_n2
noncomputable def Times_n4 : Code := cR Times_n2
noncomputable def Times_n5 : Code := cL Times_n4
noncomputable def Times_n6 : Code := cR Times_n4
noncomputable def Times_n7 : Code := cL Times_n5
noncomputable def Times_n8 : Code := cR Times_n5
noncomputable def Times_n9 : Code := cL Times_n8
noncomputable def Times_n10 : Code := cL Times_n9
noncomputable def Times_n11 : Code := cL Times_n10
noncomputable def Times_n12 : Code := cR Times_n10
noncomputable def Times_n13 : Code := cL Times_n12
noncomputable def Times_n14 : Code := cR Times_n12
noncomputable def Times_n15 : Code := cL Times_n13
noncomputable def Times_n16 : Code := cR Times_n13
noncomputable def Times_n17 : Code := cL Times_n6
noncomputable def Times_n18 : Code := cR Times_n6
noncomputable def Times_n19 : Code := cL Times_n14
noncomputable def Times_n20 : Code := cL Times_n19
noncomputable def Times_n21 : Code := cR Times_n19
noncomputable def Times_n22 : Code := cL Times_n21
noncomputable def Times_n23 : Code := cR Times_n21
noncomputable def Times_n24 : Code := cL Times_n23
noncomputable def Times_n25 : Code := cL Times_n24
noncomputable def Times_n26 : Code := cL Times_n25
noncomputable def Times_n27 : Code := cR Times_n25
noncomputable def Times_n28 : Code := cL Times_n27
noncomputable def Times_n29 : Code := cR Times_n27
noncomputable def Times_n30 : Code := cL Times_n28
noncomputable def Times_n31 : Code := cR Times_n28
noncomputable def Times_n32 : Code := cL Times_n29
noncomputable def Times_n33 : Code := cL Times_n32
noncomputable def Times_n34 : Code := cR Times_n32
set_option maxRecDepth 10000 in
theorem Times_t {w : World} {M : Hp} {X : Fr} (ws : List (Int × Int)) {gws : Nat} (vs : List (Int × Int)) {gvs : Nat} (hmws : MpOk (Value.int .i64) (Value.int .i64) gws ws M) (hmvs : MpOk (Value.int .i64) (Value.int .i64) gvs vs M) (B B2 : Nat) (hws : Ents ws B) (hvs : Ents vs B2) (hB : B + B2 ≤ 1099511627776) (S : SH w M X []) : Ct Try.prog 61 [.map (some gws), .map (some gvs)] w M X (WkR (B + B2) (mk ws * mk vs)) := by
  unfold Ct
  refine calls_in (b := Times_n0) Try.func61 rfl Try.ntmps61 rfl (fun C hC => ?_)
  refine ws_sub [(0, _), (1, _)] ⟨rfl, rfl, trivial⟩ ?_
  refine ws_seqN Times_n1 Times_n2 rfl rfl rfl ?_
  refine ws_region rfl ?_
  refine wl_op (k := 0) (k' := 1) rfl rfl rfl (wo_run rfl rfl (run_assign rfl rfl) ?_)
  refine wl_end rfl ?_
  refine nm_sub [(0, _), (1, _)] ⟨rfl, rfl, trivial⟩ ?_
  refine nm_thn ?_
  refine ws_seqN Times_n3 Times_n4 rfl rfl rfl ?_
  refine ws_region rfl ?_
  refine wl_op (k := 0) (k' := 1) rfl rfl rfl (wo_makeMap Int Int (Value.int .i64) (Value.int .i64) rfl rfl rfl S ?_)
  intro gm1 w1 S1; clear S
  refine wl_op (k := 1) (k' := 2) rfl rfl rfl (wo_run rfl rfl (run_assign rfl rfl) ?_)
  refine wl_end rfl ?_
  refine nm_sub [(0, _), (1, _), (5, _)] ⟨rfl, rfl, rfl, trivial⟩ ?_
  refine nm_thn ?_
  refine ws_seqN Times_n5 Times_n6 rfl rfl rfl ?_
  refine ws_seqN Times_n7 Times_n8 rfl rfl rfl ?_
  refine ws_region rfl ?_
  refine wl_op (k := 0) (k' := 1) rfl rfl rfl (wo_run rfl rfl (run_move rfl rfl) ?_)
  obtain ⟨arr1, clk1, hE1⟩ := hmws.ents
  refine wl_op (k := 1) (k' := 2) rfl rfl rfl (wo_range rfl rfl rfl rfl Try.underlying87 S1 hE1 S1.m ?_)
  intro r1 w2 S2; clear S1
  refine wl_end rfl ?_
  refine nm_sub [(1, _), (5, _), (12, _)] ⟨rfl, rfl, rfl, trivial⟩ ?_
  refine nm_thn ?_
  refine ws_blockN Times_n9 0 rfl rfl rfl ?_
  refine ws_loopE (fun mx_ ax_ wx_ => ∃ (sn : Array Nat) (dn : List (Int × Int)) (lf : List (Int × Int)) (es : List (Int × Int)), mx_ = lf.length ∧ Env 35 [(1, .map (some gvs)), (5, .map (some gm1)), (12, .pointer (some ⟨r1, 0, none⟩))] ax_ ∧ SH wx_ M X [Rs.itr gws clk1 r1 sn, Rs.mp (Value.int .i64) (Value.int .i64) gm1 es] ∧ Lft (Value.int .i64) (Value.int .i64) arr1 sn lf ∧ (dn ++ lf).Perm ws ∧ Ents es (B + B2) ∧ mk es = mk dn * mk vs) rfl ?_ ?_
  · intro ax_ hax_
    refine ⟨_, ⟨#[], [], ws, [], rfl, hax_.sub ⟨rfl, rfl, rfl, trivial⟩, S2.pick [0, 1] [_, _] (by decide) ⟨rfl, rfl, trivial⟩, ?hq1f0, ?hq1f1, ?hq1f2, ?hq1f3⟩⟩
    case hq1f0 => exact hE1.lft
    case hq1f1 => exact List.Perm.refl _
    case hq1f2 => exact Ents.nil_ _
    case hq1f3 => exact (Pol.zero_mul _).symm
  · rintro m2 a1 w3 ⟨sn, dn, lf, es, rfl, he1, S3, hlf, hpm, hes, hmk⟩
    clear S2
    refine ws_in he1 (c := Times_n10) rfl ?_
    clear he1 a1
    refine ws_seqN Times_n11 Times_n12 rfl rfl rfl ?_
    refine ws_region rfl ?_
    refine wl_op (k := 0) (k' := 1) rfl rfl rfl (wo_next (i := 0) rfl rfl rfl rfl S3 rfl hE1 S3.m hlf (fun hlf1 => ?_) (fun k1 v1 l1_1 l2_1 sn1 w4 hlf1 hlft1 hlst1 S4 => ?_))
    · refine wl_op (k := 1) (k' := 2) rfl rfl rfl (wo_run rfl rfl (run_extract rfl rfl rfl) ?_)
      refine wl_end rfl ?_
      refine nm_sub [(1, _), (5, _), (12, _), (14, _)] ⟨rfl, rfl, rfl, rfl, trivial⟩ ?_
      refine nm_thn ?_
      refine ws_seqN Times_n13 Times_n14 rfl rfl rfl ?_
      refine ws_condFN Times_n16 rfl rfl rfl ?_
      refine ws_exit rfl rfl ?_
      refine nm_sub [(5, _)] ⟨rfl, trivial⟩ ?_
      refine nm_thn ?_
      refine ws_seqN Times_n17 Times_n18 rfl rfl rfl ?_
      refine ws_region rfl ?_
      refine wl_op (k := 0) (k' := 1) rfl rfl rfl (wo_run rfl rfl (run_move rfl rfl) ?_)
      refine wl_op (k := 1) (k' := 2) rfl rfl rfl (wo_run rfl rfl (run_assign rfl rfl) ?_)
      refine wl_end rfl ?_
      refine nm_sub [(4, _)] ⟨rfl, trivial⟩ ?_
      refine nm_thn ?_
      obtain ⟨M1, hle2, S5, hm1⟩ := S3.pubmap (i := 1) (H' := [_, _]) rfl rfl; clear S3
      replace hmws := hmws.mono hle2
      replace hmvs := hmvs.mono hle2
      replace hE1 := hE1.mono hle2
      refine ws_ret hC [_] rfl rfl ⟨rfl, trivial⟩ ?_
      refine ⟨_, rfl, _, hle2, (S5.pick [] [] (by decide) trivial), ?_⟩
      obtain rfl : lf = [] := hlf1
      rw [List.append_nil] at hpm
      exact ⟨_, rfl, _, hm1, hes, by rw [hmk, mk_perm hpm]⟩
    · clear S3
      change SH _ _ _ [Rs.itr gws clk1 r1 sn1, _] at S4
      refine wl_op (k := 1) (k' := 2) rfl rfl rfl (wo_run rfl rfl (run_extract rfl rfl rfl) ?_)
      refine wl_end rfl ?_
      refine nm_sub [(1, _), (5, _), (12, _), (14, _)] ⟨rfl, rfl, rfl, rfl, trivial⟩ ?_
      refine nm_thn ?_
      refine ws_seqN Times_n13 Times_n14 rfl rfl rfl ?_
      refine ws_condTN Times_n15 rfl rfl rfl ?_
      refine ws_skip rfl ?_
      refine nm_sub [(1, _), (5, _), (12, _)] ⟨rfl, rfl, rfl, trivial⟩ ?_
      refine nm_thn ?_
      refine ws_blockN Times_n19 1 rfl rfl rfl ?_
      refine ws_seqN Times_n20 Times_n21 rfl rfl rfl ?_
      refine ws_region rfl ?_
      refine wl_op (k := 0) (k' := 1) rfl rfl rfl (wo_run rfl rfl (run_entry (i := 0) rfl rfl S4 rfl hE1 S4.m hlst1) ?_)
      refine wl_op (k := 1) (k' := 2) rfl rfl rfl (wo_run rfl rfl (run_extract rfl rfl rfl) ?_)
      refine wl_op (k := 2) (k' := 3) rfl rfl rfl (wo_run rfl rfl (run_extract rfl rfl rfl) ?_)
      refine wl_op (k := 3) (k' := 4) rfl rfl rfl (wo_run rfl rfl (run_assign rfl rfl) ?_)
      refine wl_op (k := 4) (k' := 5) rfl rfl rfl (wo_run rfl rfl (run_assign rfl rfl) ?_)
      refine wl_end rfl ?_
      refine nm_sub [(1, _), (5, _), (12, _), (6, _), (7, _)] ⟨rfl, rfl, rfl, rfl, rfl, trivial⟩ ?_
      refine nm_thn ?_
      refine ws_seqN Times_n22 Times_n23 rfl rfl rfl ?_
      have hk1 := (hws.at_ hpm hlf1).1
      refine ws_region rfl ?_
      refine wl_op (k := 0) (k' := 1) rfl rfl rfl (wo_run rfl rfl (run_move rfl rfl) ?_)
      obtain ⟨arr2, clk2, hE2⟩ := hmvs.ents
      refine wl_op (k := 1) (k' := 2) rfl rfl rfl (wo_range rfl rfl rfl rfl Try.underlying87 S4 hE2 S4.m ?_)
      intro r2 w5 S6; clear S4
      refine wl_end rfl ?_
      refine nm_sub [(1, _), (5, _), (12, _), (6, _), (7, _), (19, _)] ⟨rfl, rfl, rfl, rfl, rfl, rfl, trivial⟩ ?_
      refine nm_thn ?_
      refine ws_blockN Times_n24 2 rfl rfl rfl ?_
      refine ws_loopE (fun mx_ ax_ wx_ => ∃ (sn2 : Array Nat) (dn2 : List (Int × Int)) (lf2 : List (Int × Int)) (es2 : List (Int × Int)), mx_ = lf2.length ∧ Env 35 [(1, .map (some gvs)), (5, .map (some gm1)), (12, .pointer (some ⟨r1, 0, none⟩)), (6, .int .i64 k1), (7, .int .i64 v1), (19, .pointer (some ⟨r2, 0, none⟩))] ax_ ∧ SH wx_ M X [Rs.itr gvs clk2 r2 sn2, Rs.itr gws clk1 r1 sn1, Rs.mp (Value.int .i64) (Value.int .i64) gm1 es2] ∧ Lft (Value.int .i64) (Value.int .i64) arr2 sn2 lf2 ∧ (dn2 ++ lf2).Perm vs ∧ Ents es2 (B + B2) ∧ mk es2 = mk dn * mk vs + mono k1 v1 * mk dn2) rfl ?_ ?_
      · intro ax_ hax_
        refine ⟨_, ⟨#[], [], vs, es, rfl, hax_.sub ⟨rfl, rfl, rfl, rfl, rfl, rfl, trivial⟩, S6.pick [0, 1, 2] [_, _, _] (by decide) ⟨rfl, rfl, rfl, trivial⟩, ?hq2f0, ?hq2f1, ?hq2f2, ?hq2f3⟩⟩
        case hq2f0 => exact hE2.lft
        case hq2f1 => exact List.Perm.refl _
        case hq2f2 => exact hes
        case hq2f3 => (rw [hmk]; show _ = _ + mono _ _ * Pol.o; rw [Pol.mul_zero, Pol.add_zero])
      · rintro m3 a2 w6 ⟨sn2, dn2, lf2, es2, rfl, he2, S7, hlf2, hpm2, hes2, hmk2⟩
        clear S6
        refine ws_in he2 (c := Times_n25) rfl ?_
        clear he2 a2
        refine ws_seqN Times_n26 Times_n27 rfl rfl rfl ?_
        refine ws_region rfl ?_
        refine wl_op (k := 0) (k' := 1) rfl rfl rfl (wo_next (i := 0) rfl rfl rfl rfl S7 rfl hE2 S7.m hlf2 (fun hlf2 => ?_) (fun k2 v2 l1_2 l2_2 sn2 w7 hlf2 hlft2 hlst2 S8 => ?_))
        · refine wl_op (k := 1) (k' := 2) rfl rfl rfl (wo_run rfl rfl (run_extract rfl rfl rfl) ?_)
          refine wl_end rfl ?_
          refine nm_sub [(1, _), (5, _), (12, _), (6, _), (7, _), (19, _), (21, _)] ⟨rfl, rfl, rfl, rfl, rfl, rfl, rfl, trivial⟩ ?_
          refine nm_thn ?_
          refine ws_seqN Times_n28 Times_n29 rfl rfl rfl ?_
          refine ws_condFN Times_n31 rfl rfl rfl ?_
          refine ws_exit rfl rfl ?_
          refine nm_blk ?_
          refine nm_lp ?_
          have hend2 := hlf2
          intro ax_ hax_
          refine ⟨_, ?hq3m, ⟨sn1, dn ++ [(k1, v1)], l1_1 ++ l2_1, _, rfl, hax_.sub ⟨rfl, rfl, rfl, trivial⟩, S7.pick [1, 2] [_, _] (by decide) ⟨rfl, rfl, trivial⟩, ?hq3f0, ?hq3f1, ?hq3f2, ?hq3f3⟩⟩
          case hq3f0 => assumption
          case hq3f1 => (refine List.Perm.trans ?_ hpm; simp only [*, List.append_assoc, List.cons_append, List.nil_append]; exact (List.perm_append_left_iff _).2 (List.perm_middle.symm))
          case hq3f2 => exact hes2
          case hq3f3 => (rw [hmk2, mk_snoc, Pol.add_mul, mk_perm (show dn2.Perm vs by rw [← List.append_nil dn2]; have h9 := hpm2; rw [hend2] at h9; exact h9)])
          case hq3m => (simp only [*, List.length_append, List.length_cons]; omega)
        · clear S7
          change SH _ _ _ [Rs.itr gvs clk2 r2 sn2, _, _] at S8
          refine wl_op (k := 1) (k' := 2) rfl rfl rfl (wo_run rfl rfl (run_extract rfl rfl rfl) ?_)
          refine wl_end rfl ?_
          refine nm_sub [(1, _), (5, _), (12, _), (6, _), (7, _), (19, _), (21, _)] ⟨rfl, rfl, rfl, rfl, rfl, rfl, rfl, trivial⟩ ?_
          refine nm_thn ?_
          refine ws_seqN Times_n28 Times_n29 rfl rfl rfl ?_
          refine ws_condTN Times_n30 rfl rfl rfl ?_
          refine ws_skip rfl ?_
          refine nm_sub [(1, _), (5, _), (12, _), (6, _), (7, _), (19, _)] ⟨rfl, rfl, rfl, rfl, rfl, rfl, trivial⟩ ?_
          refine nm_thn ?_
          refine ws_blockN Times_n32 3 rfl rfl rfl ?_
          refine ws_seqN Times_n33 Times_n34 rfl rfl rfl ?_
          refine ws_region rfl ?_
          refine wl_op (k := 0) (k' := 1) rfl rfl rfl (wo_run rfl rfl (run_entry (i := 0) rfl rfl S8 rfl hE2 S8.m hlst2) ?_)
          refine wl_op (k := 1) (k' := 2) rfl rfl rfl (wo_run rfl rfl (run_extract rfl rfl rfl) ?_)
          refine wl_op (k := 2) (k' := 3) rfl rfl rfl (wo_run rfl rfl (run_extract rfl rfl rfl) ?_)
          refine wl_op (k := 3) (k' := 4) rfl rfl rfl (wo_run rfl rfl (run_assign rfl rfl) ?_)
          refine wl_op (k := 4) (k' := 5) rfl rfl rfl (wo_run rfl rfl (run_assign rfl rfl) ?_)
          refine wl_end rfl ?_
          refine nm_sub [(1, _), (5, _), (12, _), (6, _), (7, _), (19, _), (8, _), (9, _)] ⟨rfl, rfl, rfl, rfl, rfl, rfl, rfl, rfl, trivial⟩ ?_
          refine nm_thn ?_
          have hk2 := (hvs.at_ hpm2 hlf2).1
          refine ws_region rfl ?_
          refine wl_op (k := 0) (k' := 1) rfl rfl rfl (wo_run rfl rfl (run_move rfl rfl) ?_)
          refine wl_op (k := 1) (k' := 2) rfl rfl rfl (wo_run rfl rfl (run_move rfl rfl) ?_)
          refine wl_op (k := 2) (k' := 3) rfl rfl rfl (wo_run rfl rfl (run_move rfl rfl) ?_)
          refine wl_op (k := 3) (k' := 4) rfl rfl rfl (wo_run rfl rfl (run_add rfl rfl rfl (by first | omega | (simp only [List.length_set, List.length_append, List.length_replicate, List.length_singleton, List.length_cons, List.length_nil]; omega))) ?_)
          refine wl_op (k := 4) (k' := 5) rfl rfl rfl (wo_run rfl rfl (run_lookup (kc := Value.int .i64) (vc := Value.int .i64) (es := es2) (k := (k1 + k2)) (zv := 0) (i := 2) rfl rfl rfl Try.underlying87 mk3 zr3 S8 rfl) ?_)
          refine wl_op (k := 5) (k' := 6) rfl rfl rfl (wo_run rfl rfl (run_move rfl rfl) ?_)
          refine wl_op (k := 6) (k' := 7) rfl rfl rfl (wo_run rfl rfl (run_move rfl rfl) ?_)
          refine wl_op (k := 7) (k' := 8) rfl rfl rfl (wo_run rfl rfl (run_mulW rfl rfl rfl) ?_)
          refine wl_op (k := 8) (k' := 9) rfl rfl rfl (wo_run rfl rfl (run_addW rfl rfl rfl) ?_)
          refine wl_op (k := 9) (k' := 10) rfl rfl rfl (wo_mapUpdate (kc := Value.int .i64) (vc := Value.int .i64) (es := es2) (k := (k1 + k2)) (e := (wr (((mg (k1 + k2) es2).getD 0) + (wr (v1 * v2))))) (i := 2) (H' := [_, _, _]) (.inl rfl) rfl S8 rfl rfl rfl rfl Try.underlying87 mk3 rfl ?_)
          intro w8 S9; clear S8
          refine wl_end rfl ?_
          refine nm_blk ?_
          refine nm_lp ?_
          intro ax_ hax_
          refine ⟨_, ?hq4m, ⟨sn2, dn2 ++ [(k2, v2)], l1_2 ++ l2_2, _, rfl, hax_.sub ⟨rfl, rfl, rfl, rfl, rfl, rfl, trivial⟩, S9.pick [0, 1, 2] [_, _, _] (by decide) ⟨rfl, rfl, rfl, trivial⟩, ?hq4f0, ?hq4f1, ?hq4f2, ?hq4f3⟩⟩
          case hq4f0 => assumption
          case hq4f1 => (refine List.Perm.trans ?_ hpm2; simp only [*, List.append_assoc, List.cons_append, List.nil_append]; exact (List.perm_append_left_iff _).2 (List.perm_middle.symm))
          case hq4f2 => exact mp_ents hes2 (by omega) (wr_idem _)
          case hq4f3 => exact times_step hmk2
          case hq4m => (simp only [*, List.length_append, List.length_cons]; omega)

noncomputable def Shift_n0 : Code := Try.f104.body.getD .skip
noncomputable def Shift_n1 : Code := cL Shift_n0
noncomputable def Shift_n2 : Code := cR Shift_n0
noncomputable def Shift_n3 : Code := cL Shift_n2
noncomputable def Shift_n4 : Code := cR Shift_n2
noncomputable def Shift_n5 : Code := cL Shift_n4
noncomputable def Shift_n6 : Code := cR Shift_n4
noncomputable def Shift_n7 : Code := cL Shift_n5
noncomputable def Shift_n8 : Code := cR Shift_n5
noncomputable def Shift_n9 : Code := cL Shift_n8
noncomputable def Shift_n10 : Code := cL Shift_n9
noncomputable def Shift_n11 : Code := cL Shift_n10
noncomputable def Shift_n12 : Code := cR Shift_n10
noncomputable def Shift_n13 : Code := cL Shift_n12
noncomputable def Shift_n14 : Code := cR Shift_n12
noncomputable def Shift_n15 : Code := cL Shift_n13
noncomputable def Shift_n16 : Code := cR Shift_n13
noncomputable def Shift_n17 : Code := cL Shift_n6
noncomputable def Shift_n18 : Code := cR Shift_n6
noncomputable def Shift_n19 : Code := cL Shift_n14
noncomputable def Shift_n20 : Code := cL Shift_n19
noncomputable def Shift_n21 : Code := cR Shift_n19
set_option maxRecDepth 10000 in
theorem Shift_t {w : World} {M : Hp} {X : Fr} (ws : List (Int × Int)) {gws : Nat} (e : Int) (c : Int) (hmws : MpOk (Value.int .i64) (Value.int .i64) gws ws M) (B E : Nat) (hws : Ents ws B) (he : -(E : Int) ≤ e ∧ e ≤ E) (hB : B + E ≤ 1099511627776) (S : SH w M X []) : Ct Try.prog 104 [.map (some gws), .int .i64 e, .int .i64 c] w M X (WkR (B + E) (mk ws * mono e c)) := by
  unfold Ct
  refine calls_in (b := Shift_n0) Try.func104 rfl Try.ntmps104 rfl (fun C hC => ?_)
  refine ws_sub [(0, _), (1, _), (2, _)] ⟨rfl, rfl, rfl, trivial⟩ ?_
  refine ws_seqN Shift_n1 Shift_n2 rfl rfl rfl ?_
  refine ws_region rfl ?_
  refine wl_op (k := 0) (k' := 1) rfl rfl rfl (wo_run rfl rfl (run_assign rfl rfl) ?_)
  refine wl_end rfl ?_
  refine nm_sub [(0, _), (1, _), (2, _)] ⟨rfl, rfl, rfl, trivial⟩ ?_
  refine nm_thn ?_
  refine ws_seqN Shift_n3 Shift_n4 rfl rfl rfl ?_
  refine ws_region rfl ?_
  refine wl_op (k := 0) (k' := 1) rfl rfl rfl (wo_makeMap Int Int (Value.int .i64) (Value.int .i64) rfl rfl rfl S ?_)
  intro gm1 w1 S1; clear S
  refine wl_op (k := 1) (k' := 2) rfl rfl rfl (wo_run rfl rfl (run_assign rfl rfl) ?_)
  refine wl_end rfl ?_
  refine nm_sub [(0, _), (1, _), (2, _), (7, _)] ⟨rfl, rfl, rfl, rfl, trivial⟩ ?_
  refine nm_thn ?_
  refine ws_seqN Shift_n5 Shift_n6 rfl rfl rfl ?_
  refine ws_seqN Shift_n7 Shift_n8 rfl rfl rfl ?_
  refine ws_region rfl ?_
  refine wl_op (k := 0) (k' := 1) rfl rfl rfl (wo_run rfl rfl (run_move rfl rfl) ?_)
  obtain ⟨arr1, clk1, hE1⟩ := hmws.ents
  refine wl_op (k := 1) (k' := 2) rfl rfl rfl (wo_range rfl rfl rfl rfl Try.underlying87 S1 hE1 S1.m ?_)
  intro r1 w2 S2; clear S1
  refine wl_end rfl ?_
  refine nm_sub [(1, _), (2, _), (7, _), (12, _)] ⟨rfl, rfl, rfl, rfl, trivial⟩ ?_
  refine nm_thn ?_
  refine ws_blockN Shift_n9 0 rfl rfl rfl ?_
  refine ws_loopE (fun mx_ ax_ wx_ => ∃ (sn : Array Nat) (dn : List (Int × Int)) (lf : List (Int × Int)) (es : List (Int × Int)), mx_ = lf.length ∧ Env 26 [(1, .int .i64 e), (2, .int .i64 c), (7, .map (some gm1)), (12, .pointer (some ⟨r1, 0, none⟩))] ax_ ∧ SH wx_ M X [Rs.itr gws clk1 r1 sn, Rs.mp (Value.int .i64) (Value.int .i64) gm1 es] ∧ Lft (Value.int .i64) (Value.int .i64) arr1 sn lf ∧ (dn ++ lf).Perm ws ∧ Ents es (B + E) ∧ mk es = mk dn * mono e c ∧ es.map Prod.fst = dn.map fun q => q.1 + e) rfl ?_ ?_
  · intro ax_ hax_
    refine ⟨_, ⟨#[], [], ws, [], rfl, hax_.sub ⟨rfl, rfl, rfl, rfl, trivial⟩, S2.pick [0, 1] [_, _] (by decide) ⟨rfl, rfl, trivial⟩, ?hq1f0, ?hq1f1, ?hq1f2, ?hq1f3, ?hq1f4⟩⟩
    case hq1f0 => exact hE1.lft
    case hq1f1 => exact List.Perm.refl _
    case hq1f2 => exact Ents.nil_ _
    case hq1f3 => exact (Pol.zero_mul _).symm
    case hq1f4 => rfl
  · rintro m2 a1 w3 ⟨sn, dn, lf, es, rfl, he1, S3, hlf, hpm, hes, hmk, hky⟩
    clear S2
    refine ws_in he1 (c := Shift_n10) rfl ?_
    clear he1 a1
    refine ws_seqN Shift_n11 Shift_n12 rfl rfl rfl ?_
    refine ws_region rfl ?_
    refine wl_op (k := 0) (k' := 1) rfl rfl rfl (wo_next (i := 0) rfl rfl rfl rfl S3 rfl hE1 S3.m hlf (fun hlf1 => ?_) (fun k1 v1 l1_1 l2_1 sn1 w4 hlf1 hlft1 hlst1 S4 => ?_))
    · refine wl_op (k := 1) (k' := 2) rfl rfl rfl (wo_run rfl rfl (run_extract rfl rfl rfl) ?_)
      refine wl_end rfl ?_
      refine nm_sub [(1, _), (2, _), (7, _), (12, _), (14, _)] ⟨rfl, rfl, rfl, rfl, rfl, trivial⟩ ?_
      refine nm_thn ?_
      refine ws_seqN Shift_n13 Shift_n14 rfl rfl rfl ?_
      refine ws_condFN Shift_n16 rfl rfl rfl ?_
      refine ws_exit rfl rfl ?_
      refine nm_sub [(7, _)] ⟨rfl, trivial⟩ ?_
      refine nm_thn ?_
      refine ws_seqN Shift_n17 Shift_n18 rfl rfl rfl ?_
      refine ws_region rfl ?_
      refine wl_op (k := 0) (k' := 1) rfl rfl rfl (wo_run rfl rfl (run_move rfl rfl) ?_)
      refine wl_op (k := 1) (k' := 2) rfl rfl rfl (wo_run rfl rfl (run_assign rfl rfl) ?_)
      refine wl_end rfl ?_
      refine nm_sub [(6, _)] ⟨rfl, trivial⟩ ?_
      refine nm_thn ?_
      obtain ⟨M1, hle2, S5, hm1⟩ := S3.pubmap (i := 1) (H' := [_, _]) rfl rfl; clear S3
      replace hmws := hmws.mono hle2
      replace hE1 := hE1.mono hle2
      refine ws_ret hC [_] rfl rfl ⟨rfl, trivial⟩ ?_
      refine ⟨_, rfl, _, hle2, (S5.pick [] [] (by decide) trivial), ?_⟩
      obtain rfl : lf = [] := hlf1
      rw [List.append_nil] at hpm
      exact ⟨_, rfl, _, hm1, hes, by rw [hmk, mk_perm hpm]⟩
    · clear S3
      change SH _ _ _ [Rs.itr gws clk1 r1 sn1, _] at S4
      refine wl_op (k := 1) (k' := 2) rfl rfl rfl (wo_run rfl rfl (run_extract rfl rfl rfl) ?_)
      refine wl_end rfl ?_
      refine nm_sub [(1, _), (2, _), (7, _), (12, _), (14, _)] ⟨rfl, rfl, rfl, rfl, rfl, trivial⟩ ?_
      refine nm_thn ?_
      refine ws_seqN Shift_n13 Shift_n14 rfl rfl rfl ?_
      refine ws_condTN Shift_n15 rfl rfl rfl ?_
      refine ws_skip rfl ?_
      refine nm_sub [(1, _), (2, _), (7, _), (12, _)] ⟨rfl, rfl, rfl, rfl, trivial⟩ ?_
      refine nm_thn ?_
      refine ws_blockN Shift_n19 1 rfl rfl rfl ?_
      refine ws_seqN Shift_n20 Shift_n21 rfl rfl rfl ?_
      refine ws_region rfl ?_
      refine wl_op (k := 0) (k' := 1) rfl rfl rfl (wo_run rfl rfl (run_entry (i := 0) rfl rfl S4 rfl hE1 S4.m hlst1) ?_)
      refine wl_op (k := 1) (k' := 2) rfl rfl rfl (wo_run rfl rfl (run_extract rfl rfl rfl) ?_)
      refine wl_op (k := 2) (k' := 3) rfl rfl rfl (wo_run rfl rfl (run_extract rfl rfl rfl) ?_)
      refine wl_op (k := 3) (k' := 4) rfl rfl rfl (wo_run rfl rfl (run_assign rfl rfl) ?_)
      refine wl_op (k := 4) (k' := 5) rfl rfl rfl (wo_run rfl rfl (run_assign rfl rfl) ?_)
      refine wl_end rfl ?_
      refine nm_sub [(1, _), (2, _), (7, _), (12, _), (8, _), (9, _)] ⟨rfl, rfl, rfl, rfl, rfl, rfl, trivial⟩ ?_
      refine nm_thn ?_
      have hk1 := (hws.at_ hpm hlf1).1
      refine ws_region rfl ?_
      refine wl_op (k := 0) (k' := 1) rfl rfl rfl (wo_run rfl rfl (run_move rfl rfl) ?_)
      refine wl_op (k := 1) (k' := 2) rfl rfl rfl (wo_run rfl rfl (run_move rfl rfl) ?_)
      refine wl_op (k := 2) (k' := 3) rfl rfl rfl (wo_run rfl rfl (run_move rfl rfl) ?_)
      refine wl_op (k := 3) (k' := 4) rfl rfl rfl (wo_run rfl rfl (run_add rfl rfl rfl (by first | omega | (simp only [List.length_set, List.length_append, List.length_replicate, List.length_singleton, List.length_cons, List.length_nil]; omega))) ?_)
      refine wl_op (k := 4) (k' := 5) rfl rfl rfl (wo_run rfl rfl (run_move rfl rfl) ?_)
      refine wl_op (k := 5) (k' := 6) rfl rfl rfl (wo_run rfl rfl (run_move rfl rfl) ?_)
      refine wl_op (k := 6) (k' := 7) rfl rfl rfl (wo_run rfl rfl (run_mulW rfl rfl rfl) ?_)
      refine wl_op (k := 7) (k' := 8) rfl rfl rfl (wo_mapUpdate (kc := Value.int .i64) (vc := Value.int .i64) (es := es) (k := (k1 + e)) (e := (wr (v1 * c))) (i := 1) (H' := [_, _]) (.inl rfl) rfl S4 rfl rfl rfl rfl Try.underlying87 mk3 rfl ?_)
      intro w5 S6; clear S4
      refine wl_end rfl ?_
      refine nm_blk ?_
      refine nm_lp ?_
      intro ax_ hax_
      refine ⟨_, ?hq2m, ⟨sn1, dn ++ [(k1, v1)], l1_1 ++ l2_1, _, rfl, hax_.sub ⟨rfl, rfl, rfl, rfl, trivial⟩, S6.pick [0, 1] [_, _] (by decide) ⟨rfl, rfl, trivial⟩, ?hq2f0, ?hq2f1, ?hq2f2, ?hq2f3, ?hq2f4⟩⟩
      case hq2f0 => assumption
      case hq2f1 => (refine List.Perm.trans ?_ hpm; simp only [*, List.append_assoc, List.cons_append, List.nil_append]; exact (List.perm_append_left_iff _).2 (List.perm_middle.symm))
      case hq2f2 => exact mp_ents hes (by omega) (wr_idem _)
      case hq2f3 => exact (shift_step hws.1 hpm (by assumption) hky hmk).1
      case hq2f4 => exact (shift_step hws.1 hpm (by assumption) hky hmk).2
      case hq2m => (simp only [*, List.length_append, List.length_cons]; omega)

/-! The same by classes. -/
theorem FormW_t {w : World} {M : Hp} {X : Fr} {g B : Nat} {p : Pol} (h : Wk M g B p) (hB : B ≤ 1099511627776) (S : SH w M X []) : Ct Try.prog 65 [.map (some g)] w M X (PT B p) := by
  obtain ⟨es, h1, h2, rfl⟩ := h
  unfold Ct
  refine (Form_t es h1 B h2 hB S).mono ?_
  rintro e w' ⟨v, rfl, M', hle, S', A, c, rfl, hr⟩
  exact ⟨_, rfl, M', hle, S', A, c, _, rfl, hr, formL_can h2 hB, formL_bd h2, mk_formL h2⟩
theorem PlusW_t {w : World} {M : Hp} {X : Fr} {g g2 B C : Nat} {p q : Pol} (h : Wk M g B p) (k : Wk M g2 C q) (D : Nat) (hB : B ≤ D) (hC : C ≤ D) (hD : D ≤ 1099511627776) (S : SH w M X []) : Ct Try.prog 60 [.map (some g), .map (some g2)] w M X (WkR D (p + q)) := by
  obtain ⟨es, h1, h2, rfl⟩ := h.up hB
  obtain ⟨fs, k1, k2, rfl⟩ := k.up hC
  exact Plus_t es fs h1 k1 D h2 k2 S
theorem TimesW_t {w : World} {M : Hp} {X : Fr} {g g2 B C : Nat} {p q : Pol} (h : Wk M g B p) (k : Wk M g2 C q) (hB : B + C ≤ 1099511627776) (S : SH w M X []) : Ct Try.prog 61 [.map (some g), .map (some g2)] w M X (WkR (B + C) (p * q)) := by
  obtain ⟨es, h1, h2, rfl⟩ := h
  obtain ⟨fs, k1, k2, rfl⟩ := k
  exact Times_t es fs h1 k1 B C h2 k2 hB S
theorem ShiftW_t {w : World} {M : Hp} {X : Fr} {g B : Nat} {p : Pol} (h : Wk M g B p) (e c : Int) (E : Nat) (he : -(E : Int) ≤ e ∧ e ≤ E) (hB : B + E ≤ 1099511627776) (S : SH w M X []) : Ct Try.prog 104 [.map (some g), .int .i64 e, .int .i64 c] w M X (WkR (B + E) (p * mono e c)) := by
  obtain ⟨es, h1, h2, rfl⟩ := h
  exact Shift_t es e c h1 B E h2 he hB S

end Go.Proofs.Ytkcighnochjlgaa
