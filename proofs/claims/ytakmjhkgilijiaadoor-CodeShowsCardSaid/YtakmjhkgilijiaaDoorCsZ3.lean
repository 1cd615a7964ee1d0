/- Part 3 of the proof of the law CodeShows: the walks through its functions and the plain laws that they need. -/
import Derived.Test.YtakmjhkgilijiaaDoorCsZ2
import Derived.Lib.SmallJoins
import Derived.Deep.Slices
import Derived.Deep.Fields
import Derived.ChangeSame
import Derived.LaidMore
import Derived.LaidHandle
import Derived.Stop.Joined
import Derived.Test.YtakmjhkgilijiaaDoorCards
import Derived.Test.YtakmjhkgilijiaaDoorTie
set_option linter.unusedSimpArgs false
set_option linter.unusedVariables false
namespace Go.Proofs.YtakmjhkgilijiaaDoor
open Go.ChangeShapes Go.WideShapes Go.ChangeAt Go.RowKit
def dcT (v : Int) : List UInt8 := Lib.decDigits v.toNat
theorem dec_i {w : World} {M : Hp} {X : Fr} (v : Int) (hv : 0 ≤ v ∧ v < 100) (S : SH w M X []) : Cq Tryd.prog 15 [.int .i64 v] w M X (fun u => u = .string (sB (dcT v))) := by
 obtain ⟨m, rfl⟩ : ∃ m : Nat, v = (m : Int) := ⟨v.toNat, by omega⟩
 exact Dec_q m (by omega) S
theorem itoa_i {w : World} {M : Hp} {X : Fr} (v : Int) (hv : 0 ≤ v ∧ v < 100) (S : SH w M X []) : Cq Tryd.prog 18 [.int .i64 v] w M X (fun u => u = .string (sB (dcT v))) := by
 obtain ⟨m, rfl⟩ : ∃ m : Nat, v = (m : Int) := ⟨v.toNat, by omega⟩
 exact itoa_q m (by omega) S
def arcsT (x : Cr) (k : Nat) : List (List UInt8) := (List.range k).map fun z => dcT (crArc x z)
theorem arcsT_len (x : Cr) (k : Nat) : (arcsT x k).length = k := by simp [arcsT]
def headT (x : Cr) : List UInt8 := if x.plus = true then [88, 43, 91] else [88, 45, 91]
/-- The text of a crossing. -/
def crT (x : Cr) : List UInt8 := headT x ++ Lib.join (arcsT x 4) [44] ++ [93]
theorem join4 (x : Cr) : Lib.join (arcsT x 4) [44] = dcT x.a ++ [44] ++ dcT x.b ++ [44] ++ dcT x.c ++ [44] ++ dcT x.d := by
 have e : arcsT x 4 = [dcT x.a, dcT x.b, dcT x.c, dcT x.d] := rfl
 rw [e, Lib.join_cons]
 simp [Lib.joinTail]
theorem crT_eq (x : Cr) : crT x = headT x ++ dcT x.a ++ [44] ++ dcT x.b ++ [44] ++ dcT x.c ++ [44] ++ dcT x.d ++ [93] := by
 unfold crT
 rw [join4]
 simp only [List.append_assoc]
theorem dcT_len {v : Int} (h : 0 ≤ v ∧ v < 100) : (dcT v).length ≤ 2 := dec_len (by omega)
theorem arcs_bd {d : Dg} (h : arcsB d = true) (hn : d.crs.length ≤ 16) {i : Nat} (hi : i < d.crs.length) : (dcT (ga d.crs i).a).length ≤ 2 ∧ (dcT (ga d.crs i).b).length ≤ 2 ∧ (dcT (ga d.crs i).c).length ≤ 2 ∧ (dcT (ga d.crs i).d).length ≤ 2 := by
 have ha : 1 ≤ (ga d.crs i).a ∧ (ga d.crs i).a ≤ 2 * (d.crs.length : Int) := arcAt_bd h hi (k := 0) (by omega)
 have hb : 1 ≤ (ga d.crs i).b ∧ (ga d.crs i).b ≤ 2 * (d.crs.length : Int) := arcAt_bd h hi (k := 1) (by omega)
 have hc : 1 ≤ (ga d.crs i).c ∧ (ga d.crs i).c ≤ 2 * (d.crs.length : Int) := arcAt_bd h hi (k := 2) (by omega)
 have hd : 1 ≤ (ga d.crs i).d ∧ (ga d.crs i).d ≤ 2 * (d.crs.length : Int) := arcAt_bd h hi (k := 3) (by omega)
 exact ⟨dcT_len (by omega), dcT_len (by omega), dcT_len (by omega), dcT_len (by omega)⟩
theorem join4_len {d : Dg} (h : arcsB d = true) (hn : d.crs.length ≤ 16) {i : Nat} (hi : i < d.crs.length) : (Lib.join (arcsT (ga d.crs i) 4) [44]).length ≤ 11 := by
 obtain ⟨h1, h2, h3, h4⟩ := arcs_bd h hn hi
 rw [join4]
 simp only [List.length_append, List.length_cons, List.length_nil]
 omega
theorem headT_len (x : Cr) : (headT x).length = 3 := by unfold headT; split <;> rfl
theorem crT_len {d : Dg} (h : arcsB d = true) (hn : d.crs.length ≤ 16) {i : Nat} (hi : i < d.crs.length) : (crT (ga d.crs i)).length ≤ 15 := by
 have := join4_len h hn hi
 unfold crT
 rw [List.length_append, List.length_append, headT_len]
 simp only [List.length_cons, List.length_nil]
 omega
def partsT (d : Dg) : List (List UInt8) := d.crs.map crT ++ List.replicate d.loops.toNat [79]
theorem flatT_len {B : Nat} : ∀ {l : List (List UInt8)}, (∀ x ∈ l, x.length ≤ B) → l.flatten.length ≤ l.length * B
 | [], _ => by simp
 | x :: l, h => by
  have h1 := h x (List.mem_cons_self ..)
  have h2 := flatT_len (l := l) (fun y hy => h y (List.mem_cons_of_mem _ hy))
  rw [List.flatten_cons, List.length_append, List.length_cons, Nat.succ_mul]
  omega
theorem join_drop {p : List (List UInt8)} (h : p ≠ []) : Lib.join p [32] = ((p.map ([32] ++ ·)).flatten).drop 1 := by
 cases p with
 | nil => exact absurd rfl h
 | cons x r => rw [Lib.join_cons, List.map_cons, List.flatten_cons]; rfl
theorem partsT_mem {d : Dg} (h : arcsB d = true) (hn : d.crs.length ≤ 16) : ∀ x ∈ partsT d, x.length ≤ 15 := fun x hx => by
 rcases List.mem_append.1 hx with hx | hx
 ·obtain ⟨y, hy, rfl⟩ := List.mem_map.1 hx
  obtain ⟨i, hi, rfl⟩ := List.mem_iff_getElem.1 hy
  rw [← ga_eq hi]
  exact crT_len h hn hi
 ·rw [List.eq_of_mem_replicate hx]; simp
theorem join_len {d : Dg} (h : arcsB d = true) (hn : d.crs.length ≤ 16) (hl : 0 ≤ d.loops ∧ d.loops ≤ 16) : (Lib.join (partsT d) [32]).length ≤ 512 := by
 rcases Nat.eq_zero_or_pos (partsT d).length with h0 | h0
 ·rw [List.eq_nil_of_length_eq_zero h0]; simp [Lib.join_nil]
 ·rw [join_drop (by intro e; rw [e] at h0; simp at h0), List.length_drop]
  have h1 := flatT_len (B := 16) (l := (partsT d).map ([32] ++ ·)) (fun x hx => by
   obtain ⟨y, hy, rfl⟩ := List.mem_map.1 hx
   have := partsT_mem h hn y hy
   rw [List.length_append]; simp only [List.length_cons, List.length_nil]; omega)
  rw [List.length_map] at h1
  have h2 : (partsT d).length ≤ 32 := by
   unfold partsT
   rw [List.length_append, List.length_map, List.length_replicate]
   omega
  have := Nat.mul_le_mul_right 16 h2
  omega
def errT (d : Dg) : Int := if mayB d = true then 0 else 7
def shT (d : Dg) : List UInt8 := if mayB d = true then Lib.join (partsT d) [32] else []
noncomputable def Show_n0 : Code := Tryd.f9.body.getD .skip
noncomputable def Show_n1 : Code := cL Show_n0
noncomputable def Show_n2 : Code := cR Show_n0
noncomputable def Show_n3 : Code := cL Show_n2
noncomputable def Show_n4 : Code := cR Show_n2
noncomputable def Show_n5 : Code := cL Show_n3
noncomputable def Show_n6 : Code := cR Show_n3
noncomputable def Show_n7 : Code := cL Show_n6
noncomputable def Show_n8 : Code := cR Show_n6
noncomputable def Show_n9 : Code := cL Show_n7
noncomputable def Show_n10 : Code := cR Show_n7
noncomputable def Show_n11 : Code := cL Show_n4
noncomputable def Show_n12 : Code := cR Show_n4
noncomputable def Show_n13 : Code := cL Show_n12
noncomputable def Show_n14 : Code := cR Show_n12
noncomputable def Show_n15 : Code := cL Show_n13
noncomputable def Show_n16 : Code := cR Show_n13
noncomputable def Show_n17 : Code := cL Show_n16
noncomputable def Show_n18 : Code := cL Show_n17
noncomputable def Show_n19 : Code := cL Show_n18
noncomputable def Show_n20 : Code := cR Show_n18
noncomputable def Show_n21 : Code := cL Show_n20
noncomputable def Show_n22 : Code := cR Show_n20
noncomputable def Show_n23 : Code := cL Show_n21
noncomputable def Show_n24 : Code := cR Show_n21
noncomputable def Show_n25 : Code := cL Show_n22
noncomputable def Show_n26 : Code := cR Show_n22
noncomputable def Show_n27 : Code := cL Show_n25
noncomputable def Show_n28 : Code := cL Show_n27
noncomputable def Show_n29 : Code := cR Show_n27
noncomputable def Show_n30 : Code := cL Show_n29
noncomputable def Show_n31 : Code := cR Show_n29
noncomputable def Show_n32 : Code := cL Show_n31
noncomputable def Show_n33 : Code := cR Show_n31
noncomputable def Show_n34 : Code := cL Show_n32
noncomputable def Show_n35 : Code := cR Show_n32
noncomputable def Show_n36 : Code := cL Show_n35
noncomputable def Show_n37 : Code := cR Show_n35
noncomputable def Show_n38 : Code := cL Show_n33
noncomputable def Show_n39 : Code := cR Show_n33
noncomputable def Show_n40 : Code := cL Show_n39
noncomputable def Show_n41 : Code := cR Show_n39
noncomputable def Show_n42 : Code := cL Show_n40
noncomputable def Show_n43 : Code := cR Show_n40
noncomputable def Show_n44 : Code := cL Show_n43
noncomputable def Show_n45 : Code := cL Show_n44
noncomputable def Show_n46 : Code := cL Show_n45
noncomputable def Show_n47 : Code := cR Show_n45
noncomputable def Show_n48 : Code := cL Show_n47
noncomputable def Show_n49 : Code := cR Show_n47
noncomputable def Show_n50 : Code := cL Show_n48
noncomputable def Show_n51 : Code := cR Show_n48
noncomputable def Show_n52 : Code := cL Show_n49
noncomputable def Show_n53 : Code := cR Show_n49
noncomputable def Show_n54 : Code := cL Show_n52
noncomputable def Show_n55 : Code := cL Show_n54
noncomputable def Show_n56 : Code := cR Show_n54
noncomputable def Show_n57 : Code := cL Show_n14
noncomputable def Show_n58 : Code := cR Show_n14
noncomputable def Show_n59 : Code := cL Show_n57
noncomputable def Show_n60 : Code := cR Show_n57
noncomputable def Show_n61 : Code := cL Show_n60
noncomputable def Show_n62 : Code := cL Show_n61
noncomputable def Show_n63 : Code := cL Show_n62
noncomputable def Show_n64 : Code := cR Show_n62
noncomputable def Show_n65 : Code := cL Show_n64
noncomputable def Show_n66 : Code := cR Show_n64
noncomputable def Show_n67 : Code := cL Show_n65
noncomputable def Show_n68 : Code := cR Show_n65
noncomputable def Show_n69 : Code := cL Show_n66
noncomputable def Show_n70 : Code := cR Show_n66
noncomputable def Show_n71 : Code := cL Show_n69
noncomputable def Show_n72 : Code := cL Show_n58
noncomputable def Show_n73 : Code := cR Show_n58
set_option maxHeartbeats 1000000 in
set_option maxRecDepth 10000 in
theorem Show_t {w : World} {M : Hp} {X : Fr} (d : Dg) {dcrsA : Option Addr} {dcrsc : Nat} (hdcrs : RdA cdCr (M.un X.h) dcrsA dcrsc d.crs) (S : SH w M X []) : Ct Tryd.prog 9 [.agg [.slice dcrsA d.crs.length dcrsc, .int .i64 d.loops].toArray] w M X (fun u _ => u = .tuple [.string (sB (shT d)), .int .i64 (errT d)].toArray) := by
 unfold Ct
 have rmhdcrs : d.crs.length * 40 ≤ 140737488355328 := hdcrs.room
 refine calls_in (b := Show_n0) Tryd.func9 rfl Tryd.ntmps9 rfl (fun C hC => ?_)
 refine ws_sub [(0, _)] ⟨rfl, trivial⟩ ?_
 refine ws_seqN Show_n1 Show_n2 rfl rfl rfl ?_
 refine ws_region rfl ?_
 refine wlo 0 1 rfl rfl rfl (wo_box (l := [_, _]) rfl rfl rfl rfl rfl S ?_)
 intro gb1 w1 S1; clear S
 refine wla 1 2 rfl rfl rfl rfl rfl rfl rfl ?_
 refine wla 2 3 rfl rfl rfl rfl rfl rfl rfl ?_
 refine wl_end rfl ?_
 refine nm_sub [(1, _)] ⟨rfl, trivial⟩ ?_
 refine nm_thn ?_
 refine ws_seqN Show_n3 Show_n4 rfl rfl rfl ?_
 refine ws_seqN Show_n5 Show_n6 rfl rfl rfl ?_
 refine ws_region rfl ?_
 refine wlo 0 1 rfl rfl rfl (wo_run rfl rfl (run_loadN (us := [_, _]) rfl rfl Tryd.underlying31 rfl sz31 (S1.boxcs (i := 0) rfl ⟨rfl, rfl, trivial⟩)) ?_)
 refine wlo 1 2 rfl rfl rfl (wo_ct rfl rfl rfl rfl rfl rfl rfl cf17 S1 (CMay_t d (hdcrs.mono S1.un_XH) S1.lend) ?_)
 intro vw2 w2 M1 hle1 S2 hRw2; clear S1
 replace hdcrs := hdcrs.mono (Hp.un_mono hle1 S2.mx)
 obtain rfl := hRw2
 refine wlo 2 3 rfl rfl rfl (wo_run rfl rfl (run_not rfl rfl) ?_)
 refine wl_end rfl ?_
 refine nm_sub [(1, _), (12, _)] ⟨rfl, rfl, trivial⟩ ?_
 refine nm_thn ?_
 refine ws_condN Show_n7 Show_n8 rfl rfl rfl rfl (fun hb12 => ?_) (fun hb12 => ?_)
 ·simp only [Bool.and_eq_true, Bool.or_eq_true, Bool.and_eq_false_iff, Bool.or_eq_false_iff, decide_eq_true_eq, decide_eq_false_iff_not, Bool.not_eq_true', Bool.not_eq_false'] at hb12
  refine ws_seqN Show_n9 Show_n10 rfl rfl rfl ?_
  refine ws_region rfl ?_
  refine wla 0 1 rfl rfl rfl rfl rfl rfl rfl ?_
  refine wla 1 2 rfl rfl rfl rfl rfl rfl rfl ?_
  refine wl_end rfl ?_
  refine nm_sub [(2, _), (3, _)] ⟨rfl, rfl, trivial⟩ ?_
  refine nm_thn ?_
  refine ws_ret hC [_, _] rfl rfl ⟨rfl, rfl, trivial⟩ ?_
  refine ⟨_, rfl, _, hle1, (S2.pick [] [] (by decide) trivial), ?_⟩
  have e1 : errT d = 7 := by unfold errT; rw [if_neg (by rw [hb12]; decide)]
  have e2 : shT d = [] := by unfold shT; rw [if_neg (by rw [hb12]; decide)]
  rw [e1, e2]
  rfl
 ·simp only [Bool.and_eq_true, Bool.or_eq_true, Bool.and_eq_false_iff, Bool.or_eq_false_iff, decide_eq_true_eq, decide_eq_false_iff_not, Bool.not_eq_true', Bool.not_eq_false'] at hb12
  have hmay : mayB d = true := by simpa using hb12
  obtain ⟨hn, hab, hlo0, hlo1⟩ := mayO hmay
  refine ws_skip rfl ?_
  refine nm_sub [(1, _)] ⟨rfl, trivial⟩ ?_
  refine nm_thn ?_
  refine ws_seqN Show_n11 Show_n12 rfl rfl rfl ?_
  refine ws_region rfl ?_
  refine wla 0 1 rfl rfl rfl rfl rfl rfl rfl ?_
  refine wl_end rfl ?_
  refine nm_thn ?_
  refine ws_seqN Show_n13 Show_n14 rfl rfl rfl ?_
  refine ws_seqN Show_n15 Show_n16 rfl rfl rfl ?_
  refine ws_region rfl ?_
  refine wlo 0 1 rfl rfl rfl (wo_run rfl rfl (run_fieldAddr rfl rfl Tryd.underlying31 rfl (ce29) (nf29)) ?_)
  refine wlo 1 2 rfl rfl rfl (wo_run rfl rfl (run_load1 rfl rfl Tryd.underlying29 rfl (S2.boxc (i := 0) rfl rfl)) ?_)
  refine wlo 2 3 rfl rfl rfl (wo_run rfl rfl (run_len rfl rfl rfl rfl rfl rfl Tryd.underlying29) ?_)
  refine wlm 3 4 rfl rfl rfl rfl rfl rfl rfl ?_
  refine wl_end rfl ?_
  refine nm_sub [(1, _), (4, _), (14, _), (15, _), (16, _)] ⟨rfl, rfl, rfl, rfl, rfl, trivial⟩ ?_
  refine nm_thn ?_
  refine ws_blockN Show_n17 0 rfl rfl rfl ?_
  have S3 := S2.nilrow cdStr; clear S2
  refine ws_loopE (fun mx_ ax_ wx_ => ∃ (i : Nat) (ps : List (List UInt8)) (vrp : Value), mx_ = d.crs.length - i ∧ Env 52 [(1, .pointer (some ⟨gb1, 0, none⟩)), (4, vrp), (14, .slice dcrsA d.crs.length dcrsc), (15, .int .i64 (d.crs.length : Int)), (16, .int .i64 (i : Int))] ax_ ∧ SH wx_ M1 X [Rs.row cdStr vrp ps, Rs.box gb1 31 [.slice dcrsA d.crs.length dcrsc, .int .i64 d.loops]] ∧ i ≤ d.crs.length ∧ ps = (d.crs.take i).map crT) rfl ?_ ?_
  ·intro ax_ hax_
   refine ⟨_, ⟨0, _, _, rfl, hax_.sub ⟨rfl, rfl, rfl, rfl, rfl, trivial⟩, S3.pick [0, 1] [_, _] (by decide) ⟨rfl, rfl, trivial⟩, ?hq1f0, ?hq1f1⟩⟩
   case hq1f0 => omega
   case hq1f1 => rfl
  ·rintro m1 a1 w3 ⟨i, ps, vrp, rfl, he1, S4, hi, hps⟩
   clear S3
   refine ws_in he1 (c := Show_n18) rfl ?_
   clear he1 a1
   have hpl : ps.length = i := by rw [hps, List.length_map, List.length_take]; omega
   refine ws_seqN Show_n19 Show_n20 rfl rfl rfl ?_
   refine ws_region rfl ?_
   refine wlo 0 1 rfl rfl rfl (wo_run rfl rfl (run_lss rfl rfl rfl) ?_)
   refine wl_end rfl ?_
   refine nm_thn ?_
   refine ws_seqN Show_n21 Show_n22 rfl rfl rfl ?_
   refine ws_condN Show_n23 Show_n24 rfl rfl rfl rfl (fun hb17 => ?_) (fun hb17 => ?_)
   ·replace hb17 := of_decide_eq_true hb17
    refine ws_skip rfl ?_
    refine nm_sub [(1, _), (4, _), (14, _), (15, _), (16, _)] ⟨rfl, rfl, rfl, rfl, rfl, trivial⟩ ?_
    refine nm_thn ?_
    refine ws_seqN Show_n25 Show_n26 rfl rfl rfl ?_
    refine ws_blockN Show_n27 1 rfl rfl rfl ?_
    refine ws_seqN Show_n28 Show_n29 rfl rfl rfl ?_
    refine ws_region rfl ?_
    refine wlo 0 1 rfl rfl rfl (wo_run rfl rfl (run_indexM (C := cdCr) i rfl rfl rfl sl29 (by first | rfl | omega) hdcrs (by first | omega | (simp only [lens]; omega))) ?_)
    refine wlo 1 2 rfl rfl rfl (wo_run rfl rfl (run_loadN (us := [_, _, _, _, _]) rfl rfl Tryd.underlying42 rfl sz42 (hdcrs.cellsAt S4.um (e := i) (by first | omega | (simp only [lens]; omega)) (j := 0) ⟨rfl, rfl, rfl, rfl, rfl, trivial⟩)) ?_)
    refine wlo 2 3 rfl rfl rfl (wo_alloc (l := [_, _, _, _, _]) rfl rfl rfl zr42 rfl S4 ?_)
    intro gb2 w4 S5; clear S4
    refine wlo 3 4 rfl rfl rfl (wo_storeB (i := 0) (us := [_, _, _, _, _]) (l' := [_, _, _, _, _]) (H' := [_, _, _]) rfl rfl S5 rfl rfl rfl rfl sz42 rfl rfl rfl rfl ?_)
    intro w5 S6; clear S5
    refine wl_end rfl ?_
    refine nm_sub [(1, _), (4, _), (14, _), (15, _), (16, _), (6, _)] ⟨rfl, rfl, rfl, rfl, rfl, rfl, trivial⟩ ?_
    refine nm_thn ?_
    refine ws_seqN Show_n30 Show_n31 rfl rfl rfl ?_
    refine ws_region rfl ?_
    refine wla 0 1 rfl rfl rfl rfl rfl rfl rfl ?_
    refine wl_end rfl ?_
    refine nm_thn ?_
    refine ws_seqN Show_n32 Show_n33 rfl rfl rfl ?_
    refine ws_seqN Show_n34 Show_n35 rfl rfl rfl ?_
    refine ws_region rfl ?_
    refine wlo 0 1 rfl rfl rfl (wo_run rfl rfl (run_fieldAddr rfl rfl Tryd.underlying42 rfl (ce4) (nf4)) ?_)
    refine wlo 1 2 rfl rfl rfl (wo_run rfl rfl (run_load1 rfl rfl Tryd.underlying4 rfl (S6.boxc (i := 0) rfl rfl)) ?_)
    refine wl_end rfl ?_
    refine nm_sub [(1, _), (4, _), (14, _), (15, _), (16, _), (6, _), (7, _), (21, _)] ⟨rfl, rfl, rfl, rfl, rfl, rfl, rfl, rfl, trivial⟩ ?_
    refine nm_thn ?_
    refine ws_condN Show_n36 Show_n37 rfl rfl rfl rfl (fun hb21 => ?_) (fun hb21 => ?_)
    ·refine ws_region rfl ?_
     refine wla 0 1 rfl rfl rfl rfl rfl rfl rfl ?_
     refine wl_end rfl ?_
     refine nm_sub [(1, _), (4, _), (14, _), (15, _), (16, _), (6, _), (7, _)] ⟨rfl, rfl, rfl, rfl, rfl, rfl, rfl, trivial⟩ ?_
     refine nm_thn ?_
     refine ws_seqN Show_n38 Show_n39 rfl rfl rfl ?_
     refine ws_region rfl ?_
     refine wla 0 1 rfl rfl rfl rfl rfl rfl rfl ?_
     refine wl_end rfl ?_
     refine nm_thn ?_
     refine ws_seqN Show_n40 Show_n41 rfl rfl rfl ?_
     refine ws_seqN Show_n42 Show_n43 rfl rfl rfl ?_
     refine ws_region rfl ?_
     refine wlm 0 1 rfl rfl rfl rfl rfl rfl rfl ?_
     refine wl_end rfl ?_
     refine nm_thn ?_
     refine ws_blockN Show_n44 2 rfl rfl rfl ?_
     have S7 := S6.nilrow cdStr; clear S6
     refine ws_loopE (fun mx_ ax_ wx_ => ∃ (k : Nat) (as9 : List (List UInt8)) (vra : Value), mx_ = 4 - k ∧ Env 52 [(1, .pointer (some ⟨gb1, 0, none⟩)), (4, vrp), (14, .slice dcrsA d.crs.length dcrsc), (15, .int .i64 (d.crs.length : Int)), (16, .int .i64 (i : Int)), (6, .pointer (some ⟨gb2, 0, none⟩)), (7, .string (sB ([88, 43, 91] : List UInt8))), (8, vra), (22, .int .i64 (k : Int))] ax_ ∧ SH wx_ M1 X [Rs.row cdStr vra as9, Rs.box gb2 42 [.int .i64 ((ga d.crs i).a), .int .i64 ((ga d.crs i).b), .int .i64 ((ga d.crs i).c), .int .i64 ((ga d.crs i).d), .bool ((ga d.crs i).plus)], Rs.row cdStr vrp ps, Rs.box gb1 31 [.slice dcrsA d.crs.length dcrsc, .int .i64 d.loops]] ∧ k ≤ 4 ∧ as9 = arcsT (ga d.crs i) k) rfl ?_ ?_
     ·intro ax_ hax_
      refine ⟨_, ⟨0, _, _, rfl, hax_.sub ⟨rfl, rfl, rfl, rfl, rfl, rfl, rfl, rfl, rfl, trivial⟩, S7.pick [0, 1, 2, 3] [_, _, _, _] (by decide) ⟨rfl, rfl, rfl, rfl, trivial⟩, ?hq2f0, ?hq2f1⟩⟩
      case hq2f0 => omega
      case hq2f1 => rfl
     ·rintro m2 a2 w6 ⟨k, as9, vra, rfl, he2, S8, hk, has⟩
      clear S7
      refine ws_in he2 (c := Show_n45) rfl ?_
      clear he2 a2
      have hal : as9.length = k := by rw [has, arcsT_len]
      refine ws_seqN Show_n46 Show_n47 rfl rfl rfl ?_
      refine ws_region rfl ?_
      refine wlo 0 1 rfl rfl rfl (wo_run rfl rfl (run_lss rfl rfl rfl) ?_)
      refine wl_end rfl ?_
      refine nm_thn ?_
      refine ws_seqN Show_n48 Show_n49 rfl rfl rfl ?_
      refine ws_condN Show_n50 Show_n51 rfl rfl rfl rfl (fun hb23 => ?_) (fun hb23 => ?_)
      ·replace hb23 := of_decide_eq_true hb23
       refine ws_skip rfl ?_
       refine nm_sub [(1, _), (4, _), (14, _), (15, _), (16, _), (6, _), (7, _), (8, _), (22, _)] ⟨rfl, rfl, rfl, rfl, rfl, rfl, rfl, rfl, rfl, trivial⟩ ?_
       refine nm_thn ?_
       refine ws_seqN Show_n52 Show_n53 rfl rfl rfl ?_
       refine ws_blockN Show_n54 3 rfl rfl rfl ?_
       refine ws_seqN Show_n55 Show_n56 rfl rfl rfl ?_
       refine ws_region rfl ?_
       refine wlm 0 1 rfl rfl rfl rfl rfl rfl rfl ?_
       refine wla 1 2 rfl rfl rfl rfl rfl rfl rfl ?_
       refine wl_end rfl ?_
       refine nm_sub [(1, _), (4, _), (14, _), (15, _), (16, _), (6, _), (7, _), (8, _), (22, _), (9, _)] ⟨rfl, rfl, rfl, rfl, rfl, rfl, rfl, rfl, rfl, rfl, trivial⟩ ?_
       refine nm_thn ?_
       have hsd : 1 ≤ crArc (ga d.crs i) k ∧ crArc (ga d.crs i) k ≤ 2 * (d.crs.length : Int) := arcAt_bd hab (show i < d.crs.length by omega) (show k < 4 by omega)
       refine ws_region rfl ?_
       refine wlm 0 1 rfl rfl rfl rfl rfl rfl rfl ?_
       refine wlo 1 2 rfl rfl rfl (wo_run rfl rfl (run_loadN (us := [_, _, _, _, _]) rfl rfl Tryd.underlying42 rfl sz42 (S8.boxcs (i := 1) rfl ⟨rfl, rfl, rfl, rfl, rfl, trivial⟩)) ?_)
       refine wlm 2 3 rfl rfl rfl rfl rfl rfl rfl ?_
       refine wlo 3 4 rfl rfl rfl (wo_cq rfl rfl rfl rfl rfl rfl rfl cf19 S8 (Arc_q (ga d.crs i) k (by omega) S8.lend) ?_)
       rintro _ w7 S9 rfl; clear S8
       refine wlo 4 5 rfl rfl rfl (wo_cq rfl rfl rfl rfl rfl rfl rfl cf18 S9 (itoa_i (crArc (ga d.crs i) k) ((by omega)) S9.lend) ?_)
       rintro _ w8 S10 rfl; clear S9
       refine wlo 5 6 rfl rfl rfl (wo_buildSlice1 (C := cdStr) (l := [_]) rfl rfl rfl rfl sl40 rfl rfl rfl rfl S10 ?_)
       intro gb3 w9 S11; clear S10
       refine wlo 6 7 rfl rfl rfl (wo_append1 (C := cdStr) (i := 1) (q := 0) (dcT (crArc (ga d.crs i) k)) rfl rfl rfl rfl rfl rfl rfl rfl sl40 S11 rfl rfl rfl (by show (_ + 1) * 16 ≤ _; first | omega | (simp only [lens]; omega)) ?_)
       intro vra1 w10 S12; clear S11
       have S13 := S12.pick [1, 2, 3, 4] [_, _, _, _] (by decide) ⟨rfl, rfl, rfl, rfl, trivial⟩; clear S12
       refine wla 7 8 rfl rfl rfl rfl rfl rfl rfl ?_
       refine wl_end rfl ?_
       refine nm_blk ?_
       refine nm_sub [(1, _), (4, _), (14, _), (15, _), (16, _), (6, _), (7, _), (8, _), (22, _)] ⟨rfl, rfl, rfl, rfl, rfl, rfl, rfl, rfl, rfl, trivial⟩ ?_
       refine nm_thn ?_
       refine ws_region rfl ?_
       refine wlo 0 1 rfl rfl rfl (wo_run rfl rfl (run_add rfl rfl rfl (by first | omega | (simp only [lens]; omega))) ?_)
       refine wlm 1 2 rfl rfl rfl rfl rfl rfl rfl ?_
       refine wl_end rfl ?_
       refine nm_lp ?_
       intro ax_ hax_
       refine ⟨_, ?hq3m, ⟨k + 1, _, _, rfl, hax_.sub ⟨rfl, rfl, rfl, rfl, rfl, rfl, rfl, rfl, rfl, trivial⟩, S13.pick [0, 1, 2, 3] [_, _, _, _] (by decide) ⟨rfl, rfl, rfl, rfl, trivial⟩, ?hq3f0, ?hq3f1⟩⟩
       case hq3f0 => omega
       case hq3f1 => (rw [has]; unfold arcsT; rw [List.range_succ, List.map_append]; rfl)
       case hq3m => omega
      ·replace hb23 := of_decide_eq_false hb23
       refine ws_exit rfl rfl ?_
       refine nm_sub [(1, _), (4, _), (14, _), (15, _), (16, _), (7, _), (8, _)] ⟨rfl, rfl, rfl, rfl, rfl, rfl, rfl, trivial⟩ ?_
       refine nm_thn ?_
       have has9 : as9 = arcsT (ga d.crs i) 4 := by rw [has, show k = 4 by omega]
       have hjl := join4_len hab hn (show i < d.crs.length by omega)
       rw [← has9] at hjl
       refine ws_region rfl ?_
       refine wlm 0 1 rfl rfl rfl rfl rfl rfl rfl ?_
       refine wlm 1 2 rfl rfl rfl rfl rfl rfl rfl ?_
       refine wlm 2 3 rfl rfl rfl rfl rfl rfl rfl ?_
       obtain ⟨A1, c1, e1, hr1⟩ := S8.lendRd (i := 0) rfl (by show _ * 16 ≤ _; first | omega | (simp only [lens]; omega))
       have hcall1 := join_q as9 ([44] : List UInt8) hr1 (by omega) S8.lend
       refine wlo 3 4 rfl rfl rfl (wo_cq rfl rfl rfl rfl rfl rfl rfl cf20 S8 (Cq.cast (by first | (simp only [e1]; done) | (simp only [e1]; rfl)) (hcall1)) ?_)
       rintro _ w11 S14 rfl; clear S8
       refine wlo 4 5 rfl rfl rfl (wo_run rfl rfl (run_addS rfl rfl rfl ((by simp only [List.length_append, List.length_cons, List.length_nil]; first | omega | (simp only [lens]; omega)))) ?_)
       refine wlo 5 6 rfl rfl rfl (wo_run rfl rfl (run_addS rfl rfl rfl ((by simp only [List.length_append, List.length_cons, List.length_nil]; first | omega | (simp only [lens]; omega)))) ?_)
       refine wlo 6 7 rfl rfl rfl (wo_buildSlice1 (C := cdStr) (l := [_]) rfl rfl rfl rfl sl40 rfl rfl rfl rfl S14 ?_)
       intro gb4 w12 S15; clear S14
       refine wlo 7 8 rfl rfl rfl (wo_append1 (C := cdStr) (i := 3) (q := 0) ((([88, 43, 91] : List UInt8) ++ (Lib.join as9 ([44] : List UInt8))) ++ ([93] : List UInt8)) rfl rfl rfl rfl rfl rfl rfl rfl sl40 S15 rfl rfl rfl (by show (_ + 1) * 16 ≤ _; first | omega | (simp only [lens]; omega)) ?_)
       intro vrp1 w13 S16; clear S15
       have S17 := S16.pick [1, 2, 3, 4] [_, _, _, _] (by decide) ⟨rfl, rfl, rfl, rfl, trivial⟩; clear S16
       refine wla 8 9 rfl rfl rfl rfl rfl rfl rfl ?_
       refine wl_end rfl ?_
       refine nm_blk ?_
       refine nm_sub [(1, _), (4, _), (14, _), (15, _), (16, _)] ⟨rfl, rfl, rfl, rfl, rfl, trivial⟩ ?_
       refine nm_thn ?_
       refine ws_region rfl ?_
       refine wlo 0 1 rfl rfl rfl (wo_run rfl rfl (run_add rfl rfl rfl (by first | omega | (simp only [lens]; omega))) ?_)
       refine wlm 1 2 rfl rfl rfl rfl rfl rfl rfl ?_
       refine wl_end rfl ?_
       refine nm_lp ?_
       intro ax_ hax_
       refine ⟨_, ?hq4m, ⟨i + 1, _, _, rfl, hax_.sub ⟨rfl, rfl, rfl, rfl, rfl, trivial⟩, S17.pick [2, 3] [_, _] (by decide) ⟨rfl, rfl, trivial⟩, ?hq4f0, ?hq4f1⟩⟩
       case hq4f0 => omega
       case hq4f1 => (rw [hps, take_ga d.crs i (by omega), List.map_append]; refine congrArg _ ?_; rw [has9]; unfold crT headT; first | (rw [List.map_singleton, if_pos (by assumption)]) | (rw [List.map_singleton, if_neg (by rw [hb21]; decide)]))
       case hq4m => omega
    ·refine ws_skip rfl ?_
     refine nm_sub [(1, _), (4, _), (14, _), (15, _), (16, _), (6, _), (7, _)] ⟨rfl, rfl, rfl, rfl, rfl, rfl, rfl, trivial⟩ ?_
     refine nm_thn ?_
     refine ws_seqN Show_n38 Show_n39 rfl rfl rfl ?_
     refine ws_region rfl ?_
     refine wla 0 1 rfl rfl rfl rfl rfl rfl rfl ?_
     refine wl_end rfl ?_
     refine nm_thn ?_
     refine ws_seqN Show_n40 Show_n41 rfl rfl rfl ?_
     refine ws_seqN Show_n42 Show_n43 rfl rfl rfl ?_
     refine ws_region rfl ?_
     refine wlm 0 1 rfl rfl rfl rfl rfl rfl rfl ?_
     refine wl_end rfl ?_
     refine nm_thn ?_
     refine ws_blockN Show_n44 2 rfl rfl rfl ?_
     have S18 := S6.nilrow cdStr; clear S6
     refine ws_loopE (fun mx_ ax_ wx_ => ∃ (k : Nat) (as9 : List (List UInt8)) (vra : Value), mx_ = 4 - k ∧ Env 52 [(1, .pointer (some ⟨gb1, 0, none⟩)), (4, vrp), (14, .slice dcrsA d.crs.length dcrsc), (15, .int .i64 (d.crs.length : Int)), (16, .int .i64 (i : Int)), (6, .pointer (some ⟨gb2, 0, none⟩)), (7, .string (sB ([88, 45, 91] : List UInt8))), (8, vra), (22, .int .i64 (k : Int))] ax_ ∧ SH wx_ M1 X [Rs.row cdStr vra as9, Rs.box gb2 42 [.int .i64 ((ga d.crs i).a), .int .i64 ((ga d.crs i).b), .int .i64 ((ga d.crs i).c), .int .i64 ((ga d.crs i).d), .bool ((ga d.crs i).plus)], Rs.row cdStr vrp ps, Rs.box gb1 31 [.slice dcrsA d.crs.length dcrsc, .int .i64 d.loops]] ∧ k ≤ 4 ∧ as9 = arcsT (ga d.crs i) k) rfl ?_ ?_
     ·intro ax_ hax_
      refine ⟨_, ⟨0, _, _, rfl, hax_.sub ⟨rfl, rfl, rfl, rfl, rfl, rfl, rfl, rfl, rfl, trivial⟩, S18.pick [0, 1, 2, 3] [_, _, _, _] (by decide) ⟨rfl, rfl, rfl, rfl, trivial⟩, ?hq5f0, ?hq5f1⟩⟩
      case hq5f0 => omega
      case hq5f1 => rfl
     ·rintro m3 a3 w14 ⟨k, as9, vra, rfl, he3, S19, hk, has⟩
      clear S18
      refine ws_in he3 (c := Show_n45) rfl ?_
      clear he3 a3
      have hal : as9.length = k := by rw [has, arcsT_len]
      refine ws_seqN Show_n46 Show_n47 rfl rfl rfl ?_
      refine ws_region rfl ?_
      refine wlo 0 1 rfl rfl rfl (wo_run rfl rfl (run_lss rfl rfl rfl) ?_)
      refine wl_end rfl ?_
      refine nm_thn ?_
      refine ws_seqN Show_n48 Show_n49 rfl rfl rfl ?_
      refine ws_condN Show_n50 Show_n51 rfl rfl rfl rfl (fun hb23 => ?_) (fun hb23 => ?_)
      ·replace hb23 := of_decide_eq_true hb23
       refine ws_skip rfl ?_
       refine nm_sub [(1, _), (4, _), (14, _), (15, _), (16, _), (6, _), (7, _), (8, _), (22, _)] ⟨rfl, rfl, rfl, rfl, rfl, rfl, rfl, rfl, rfl, trivial⟩ ?_
       refine nm_thn ?_
       refine ws_seqN Show_n52 Show_n53 rfl rfl rfl ?_
       refine ws_blockN Show_n54 3 rfl rfl rfl ?_
       refine ws_seqN Show_n55 Show_n56 rfl rfl rfl ?_
       refine ws_region rfl ?_
       refine wlm 0 1 rfl rfl rfl rfl rfl rfl rfl ?_
       refine wla 1 2 rfl rfl rfl rfl rfl rfl rfl ?_
       refine wl_end rfl ?_
       refine nm_sub [(1, _), (4, _), (14, _), (15, _), (16, _), (6, _), (7, _), (8, _), (22, _), (9, _)] ⟨rfl, rfl, rfl, rfl, rfl, rfl, rfl, rfl, rfl, rfl, trivial⟩ ?_
       refine nm_thn ?_
       have hsd : 1 ≤ crArc (ga d.crs i) k ∧ crArc (ga d.crs i) k ≤ 2 * (d.crs.length : Int) := arcAt_bd hab (show i < d.crs.length by omega) (show k < 4 by omega)
       refine ws_region rfl ?_
       refine wlm 0 1 rfl rfl rfl rfl rfl rfl rfl ?_
       refine wlo 1 2 rfl rfl rfl (wo_run rfl rfl (run_loadN (us := [_, _, _, _, _]) rfl rfl Tryd.underlying42 rfl sz42 (S19.boxcs (i := 1) rfl ⟨rfl, rfl, rfl, rfl, rfl, trivial⟩)) ?_)
       refine wlm 2 3 rfl rfl rfl rfl rfl rfl rfl ?_
       refine wlo 3 4 rfl rfl rfl (wo_cq rfl rfl rfl rfl rfl rfl rfl cf19 S19 (Arc_q (ga d.crs i) k (by omega) S19.lend) ?_)
       rintro _ w15 S20 rfl; clear S19
       refine wlo 4 5 rfl rfl rfl (wo_cq rfl rfl rfl rfl rfl rfl rfl cf18 S20 (itoa_i (crArc (ga d.crs i) k) ((by omega)) S20.lend) ?_)
       rintro _ w16 S21 rfl; clear S20
       refine wlo 5 6 rfl rfl rfl (wo_buildSlice1 (C := cdStr) (l := [_]) rfl rfl rfl rfl sl40 rfl rfl rfl rfl S21 ?_)
       intro gb5 w17 S22; clear S21
       refine wlo 6 7 rfl rfl rfl (wo_append1 (C := cdStr) (i := 1) (q := 0) (dcT (crArc (ga d.crs i) k)) rfl rfl rfl rfl rfl rfl rfl rfl sl40 S22 rfl rfl rfl (by show (_ + 1) * 16 ≤ _; first | omega | (simp only [lens]; omega)) ?_)
       intro vra2 w18 S23; clear S22
       have S24 := S23.pick [1, 2, 3, 4] [_, _, _, _] (by decide) ⟨rfl, rfl, rfl, rfl, trivial⟩; clear S23
       refine wla 7 8 rfl rfl rfl rfl rfl rfl rfl ?_
       refine wl_end rfl ?_
       refine nm_blk ?_
       refine nm_sub [(1, _), (4, _), (14, _), (15, _), (16, _), (6, _), (7, _), (8, _), (22, _)] ⟨rfl, rfl, rfl, rfl, rfl, rfl, rfl, rfl, rfl, trivial⟩ ?_
       refine nm_thn ?_
       refine ws_region rfl ?_
       refine wlo 0 1 rfl rfl rfl (wo_run rfl rfl (run_add rfl rfl rfl (by first | omega | (simp only [lens]; omega))) ?_)
       refine wlm 1 2 rfl rfl rfl rfl rfl rfl rfl ?_
       refine wl_end rfl ?_
       refine nm_lp ?_
       intro ax_ hax_
       refine ⟨_, ?hq6m, ⟨k + 1, _, _, rfl, hax_.sub ⟨rfl, rfl, rfl, rfl, rfl, rfl, rfl, rfl, rfl, trivial⟩, S24.pick [0, 1, 2, 3] [_, _, _, _] (by decide) ⟨rfl, rfl, rfl, rfl, trivial⟩, ?hq6f0, ?hq6f1⟩⟩
       case hq6f0 => omega
       case hq6f1 => (rw [has]; unfold arcsT; rw [List.range_succ, List.map_append]; rfl)
       case hq6m => omega
      ·replace hb23 := of_decide_eq_false hb23
       refine ws_exit rfl rfl ?_
       refine nm_sub [(1, _), (4, _), (14, _), (15, _), (16, _), (7, _), (8, _)] ⟨rfl, rfl, rfl, rfl, rfl, rfl, rfl, trivial⟩ ?_
       refine nm_thn ?_
       have has9 : as9 = arcsT (ga d.crs i) 4 := by rw [has, show k = 4 by omega]
       have hjl := join4_len hab hn (show i < d.crs.length by omega)
       rw [← has9] at hjl
       refine ws_region rfl ?_
       refine wlm 0 1 rfl rfl rfl rfl rfl rfl rfl ?_
       refine wlm 1 2 rfl rfl rfl rfl rfl rfl rfl ?_
       refine wlm 2 3 rfl rfl rfl rfl rfl rfl rfl ?_
       obtain ⟨A2, c2, e2, hr2⟩ := S19.lendRd (i := 0) rfl (by show _ * 16 ≤ _; first | omega | (simp only [lens]; omega))
       have hcall2 := join_q as9 ([44] : List UInt8) hr2 (by omega) S19.lend
       refine wlo 3 4 rfl rfl rfl (wo_cq rfl rfl rfl rfl rfl rfl rfl cf20 S19 (Cq.cast (by first | (simp only [e2]; done) | (simp only [e2]; rfl)) (hcall2)) ?_)
       rintro _ w19 S25 rfl; clear S19
       refine wlo 4 5 rfl rfl rfl (wo_run rfl rfl (run_addS rfl rfl rfl ((by simp only [List.length_append, List.length_cons, List.length_nil]; first | omega | (simp only [lens]; omega)))) ?_)
       refine wlo 5 6 rfl rfl rfl (wo_run rfl rfl (run_addS rfl rfl rfl ((by simp only [List.length_append, List.length_cons, List.length_nil]; first | omega | (simp only [lens]; omega)))) ?_)
       refine wlo 6 7 rfl rfl rfl (wo_buildSlice1 (C := cdStr) (l := [_]) rfl rfl rfl rfl sl40 rfl rfl rfl rfl S25 ?_)
       intro gb6 w20 S26; clear S25
       refine wlo 7 8 rfl rfl rfl (wo_append1 (C := cdStr) (i := 3) (q := 0) ((([88, 45, 91] : List UInt8) ++ (Lib.join as9 ([44] : List UInt8))) ++ ([93] : List UInt8)) rfl rfl rfl rfl rfl rfl rfl rfl sl40 S26 rfl rfl rfl (by show (_ + 1) * 16 ≤ _; first | omega | (simp only [lens]; omega)) ?_)
       intro vrp2 w21 S27; clear S26
       have S28 := S27.pick [1, 2, 3, 4] [_, _, _, _] (by decide) ⟨rfl, rfl, rfl, rfl, trivial⟩; clear S27
       refine wla 8 9 rfl rfl rfl rfl rfl rfl rfl ?_
       refine wl_end rfl ?_
       refine nm_blk ?_
       refine nm_sub [(1, _), (4, _), (14, _), (15, _), (16, _)] ⟨rfl, rfl, rfl, rfl, rfl, trivial⟩ ?_
       refine nm_thn ?_
       refine ws_region rfl ?_
       refine wlo 0 1 rfl rfl rfl (wo_run rfl rfl (run_add rfl rfl rfl (by first | omega | (simp only [lens]; omega))) ?_)
       refine wlm 1 2 rfl rfl rfl rfl rfl rfl rfl ?_
       refine wl_end rfl ?_
       refine nm_lp ?_
       intro ax_ hax_
       refine ⟨_, ?hq7m, ⟨i + 1, _, _, rfl, hax_.sub ⟨rfl, rfl, rfl, rfl, rfl, trivial⟩, S28.pick [2, 3] [_, _] (by decide) ⟨rfl, rfl, trivial⟩, ?hq7f0, ?hq7f1⟩⟩
       case hq7f0 => omega
       case hq7f1 => (rw [hps, take_ga d.crs i (by omega), List.map_append]; refine congrArg _ ?_; rw [has9]; unfold crT headT; first | (rw [List.map_singleton, if_pos (by assumption)]) | (rw [List.map_singleton, if_neg (by rw [hb21]; decide)]))
       case hq7m => omega
   ·replace hb17 := of_decide_eq_false hb17
    refine ws_exit rfl rfl ?_
    refine nm_sub [(1, _), (4, _)] ⟨rfl, rfl, trivial⟩ ?_
    refine nm_thn ?_
    refine ws_seqN Show_n57 Show_n58 rfl rfl rfl ?_
    refine ws_seqN Show_n59 Show_n60 rfl rfl rfl ?_
    refine ws_region rfl ?_
    refine wlo 0 1 rfl rfl rfl (wo_run rfl rfl (run_fieldAddr rfl rfl Tryd.underlying31 rfl (ce3) (nf3)) ?_)
    refine wlo 1 2 rfl rfl rfl (wo_run rfl rfl (run_load1 rfl rfl Tryd.underlying3 rfl (S4.boxc (i := 1) rfl rfl)) ?_)
    refine wlm 2 3 rfl rfl rfl rfl rfl rfl rfl ?_
    refine wl_end rfl ?_
    refine nm_sub [(4, _), (43, _), (44, _)] ⟨rfl, rfl, rfl, trivial⟩ ?_
    refine nm_thn ?_
    refine ws_blockN Show_n61 4 rfl rfl rfl ?_
    refine ws_loopE (fun mx_ ax_ wx_ => ∃ (j : Nat) (qs : List (List UInt8)) (vrq : Value), mx_ = d.loops.toNat - j ∧ Env 52 [(4, vrq), (43, .int .i64 d.loops), (44, .int .i64 (j : Int))] ax_ ∧ SH wx_ M1 X [Rs.row cdStr vrq qs] ∧ (j : Int) ≤ d.loops ∧ qs = d.crs.map crT ++ List.replicate j [79]) rfl ?_ ?_
    ·intro ax_ hax_
     refine ⟨_, ⟨0, _, _, rfl, hax_.sub ⟨rfl, rfl, rfl, trivial⟩, S4.pick [0] [_] (by decide) ⟨rfl, trivial⟩, ?hq8f0, ?hq8f1⟩⟩
     case hq8f0 => omega
     case hq8f1 => (obtain rfl : i = d.crs.length := (by omega); rw [hps, List.take_length, List.replicate_zero, List.append_nil])
    ·rintro m4 a4 w22 ⟨j, qs, vrq, rfl, he4, S29, hj, hqs⟩
     clear S4
     refine ws_in he4 (c := Show_n62) rfl ?_
     clear he4 a4
     have hql : qs.length = d.crs.length + j := by rw [hqs, List.length_append, List.length_map, List.length_replicate]
     refine ws_seqN Show_n63 Show_n64 rfl rfl rfl ?_
     refine ws_region rfl ?_
     refine wlo 0 1 rfl rfl rfl (wo_run rfl rfl (run_lss rfl rfl rfl) ?_)
     refine wl_end rfl ?_
     refine nm_thn ?_
     refine ws_seqN Show_n65 Show_n66 rfl rfl rfl ?_
     refine ws_condN Show_n67 Show_n68 rfl rfl rfl rfl (fun hb45 => ?_) (fun hb45 => ?_)
     ·replace hb45 := of_decide_eq_true hb45
      refine ws_skip rfl ?_
      refine nm_sub [(4, _), (43, _), (44, _)] ⟨rfl, rfl, rfl, trivial⟩ ?_
      refine nm_thn ?_
      refine ws_seqN Show_n69 Show_n70 rfl rfl rfl ?_
      refine ws_blockN Show_n71 5 rfl rfl rfl ?_
      refine ws_region rfl ?_
      refine wlm 0 1 rfl rfl rfl rfl rfl rfl rfl ?_
      refine wlo 1 2 rfl rfl rfl (wo_buildSlice1 (C := cdStr) (l := [_]) rfl rfl rfl rfl sl40 rfl rfl rfl rfl S29 ?_)
      intro gb7 w23 S30; clear S29
      refine wlo 2 3 rfl rfl rfl (wo_append1 (C := cdStr) (i := 1) (q := 0) ([79] : List UInt8) rfl rfl rfl rfl rfl rfl rfl rfl sl40 S30 rfl rfl rfl (by show (_ + 1) * 16 ≤ _; first | omega | (simp only [lens]; omega)) ?_)
      intro vrq1 w24 S31; clear S30
      have S32 := S31.pick [1] [_] (by decide) ⟨rfl, trivial⟩; clear S31
      refine wla 3 4 rfl rfl rfl rfl rfl rfl rfl ?_
      refine wl_end rfl ?_
      refine nm_blk ?_
      refine nm_sub [(4, _), (43, _), (44, _)] ⟨rfl, rfl, rfl, trivial⟩ ?_
      refine nm_thn ?_
      refine ws_region rfl ?_
      refine wlo 0 1 rfl rfl rfl (wo_run rfl rfl (run_add rfl rfl rfl (by first | omega | (simp only [lens]; omega))) ?_)
      refine wlm 1 2 rfl rfl rfl rfl rfl rfl rfl ?_
      refine wl_end rfl ?_
      refine nm_lp ?_
      intro ax_ hax_
      refine ⟨_, ?hq9m, ⟨j + 1, _, _, rfl, hax_.sub ⟨rfl, rfl, rfl, trivial⟩, S32.pick [0] [_] (by decide) ⟨rfl, trivial⟩, ?hq9f0, ?hq9f1⟩⟩
      case hq9f0 => omega
      case hq9f1 => (rw [hqs, List.replicate_succ', List.append_assoc])
      case hq9m => omega
     ·replace hb45 := of_decide_eq_false hb45
      refine ws_exit rfl rfl ?_
      refine nm_sub [(4, _)] ⟨rfl, trivial⟩ ?_
      refine nm_thn ?_
      refine ws_seqN Show_n72 Show_n73 rfl rfl rfl ?_
      have hqs9 : qs = partsT d := by rw [hqs, show j = d.loops.toNat by omega]; rfl
      have hjl := join_len hab hn ⟨hlo0, hlo1⟩
      rw [← hqs9] at hjl
      refine ws_region rfl ?_
      refine wlm 0 1 rfl rfl rfl rfl rfl rfl rfl ?_
      obtain ⟨A3, c3, e3, hr3⟩ := S29.lendRd (i := 0) rfl (by show _ * 16 ≤ _; first | omega | (simp only [lens]; omega))
      have hcall3 := join_q qs ([32] : List UInt8) hr3 (by omega) S29.lend
      refine wlo 1 2 rfl rfl rfl (wo_cq rfl rfl rfl rfl rfl rfl rfl cf20 S29 (Cq.cast (by first | (simp only [e3]; done) | (simp only [e3]; rfl)) (hcall3)) ?_)
      rintro _ w25 S33 rfl; clear S29
      refine wla 2 3 rfl rfl rfl rfl rfl rfl rfl ?_
      refine wla 3 4 rfl rfl rfl rfl rfl rfl rfl ?_
      refine wl_end rfl ?_
      refine nm_sub [(2, _), (3, _)] ⟨rfl, rfl, trivial⟩ ?_
      refine nm_thn ?_
      refine ws_ret hC [_, _] rfl rfl ⟨rfl, rfl, trivial⟩ ?_
      refine ⟨_, rfl, _, hle1, (S33.pick [] [] (by decide) trivial), ?_⟩
      have e1 : errT d = 0 := by unfold errT; rw [if_pos hmay]
      have e2 : shT d = Lib.join (partsT d) [32] := by unfold shT; rw [if_pos hmay]
      rw [e1, e2, ← hqs9]
      rfl
end Go.Proofs.YtakmjhkgilijiaaDoor
namespace Go.Proofs.YtakmjhkgilijiaaDoor
open Go.ChangeShapes Go.WideShapes Go.ChangeAt Go.RowKit
def allT (d : Dg) : List UInt8 := ((partsT d).map ([32] ++ ·)).flatten
theorem may_ne {d : Dg} (h : mayB d = true) : 1 ≤ (allT d).length := by
 rw [mayB_arcs, Bool.and_eq_true, decide_eq_true_iff] at h
 obtain ⟨⟨h1, h2, h3, h4⟩, _⟩ := h
 have hp : 1 ≤ (partsT d).length := by
  unfold partsT
  rw [List.length_append, List.length_map, List.length_replicate]
  omega
 unfold allT
 cases hq : partsT d with
 | nil => rw [hq] at hp; simp at hp
 | cons x r => rw [List.map_cons, List.flatten_cons, List.length_append, List.length_append]; simp only [List.length_cons, List.length_nil]; omega
theorem shT_all {d : Dg} (h : mayB d = true) : shT d = (allT d).drop 1 := by
 have h1 := may_ne h
 unfold shT
 rw [if_pos h]
 refine join_drop fun e => ?_
 unfold allT at h1
 rw [e] at h1
 simp at h1
theorem allT_eq (d : Dg) : allT d = ((d.crs.map crT).map ([32] ++ ·)).flatten ++ (List.replicate d.loops.toNat [32, 79]).flatten := by
 unfold allT partsT
 rw [List.map_append, List.flatten_append, List.map_replicate]; rfl
theorem text_step (s : List UInt8) (x : Cr) (sg : List UInt8) (h : headT x = [88] ++ sg ++ [91]) : s ++ [32, 88] ++ sg ++ [91] ++ dcT x.a ++ [44] ++ dcT x.b ++ [44] ++ dcT x.c ++ [44] ++ dcT x.d ++ [93] = s ++ (List.map ([32] ++ ·) (List.map crT [x])).flatten := by
 rw [List.map_cons, List.map_nil, List.map_cons, List.map_nil, crT_eq, h]
 simp only [List.flatten_cons, List.flatten_nil, List.append_nil, List.append_assoc, List.cons_append, List.nil_append]
noncomputable def DiagramText_n0 : Code := Tryd.f12.body.getD .skip
noncomputable def DiagramText_n1 : Code := cL DiagramText_n0
noncomputable def DiagramText_n2 : Code := cR DiagramText_n0
noncomputable def DiagramText_n3 : Code := cL DiagramText_n2
noncomputable def DiagramText_n4 : Code := cR DiagramText_n2
noncomputable def DiagramText_n5 : Code := cL DiagramText_n4
noncomputable def DiagramText_n6 : Code := cR DiagramText_n4
noncomputable def DiagramText_n7 : Code := cL DiagramText_n5
noncomputable def DiagramText_n8 : Code := cR DiagramText_n5
noncomputable def DiagramText_n9 : Code := cL DiagramText_n8
noncomputable def DiagramText_n10 : Code := cL DiagramText_n9
noncomputable def DiagramText_n11 : Code := cL DiagramText_n10
noncomputable def DiagramText_n12 : Code := cR DiagramText_n10
noncomputable def DiagramText_n13 : Code := cL DiagramText_n11
noncomputable def DiagramText_n14 : Code := cR DiagramText_n11
noncomputable def DiagramText_n15 : Code := cL DiagramText_n14
noncomputable def DiagramText_n16 : Code := cR DiagramText_n14
noncomputable def DiagramText_n17 : Code := cL DiagramText_n12
noncomputable def DiagramText_n18 : Code := cR DiagramText_n12
noncomputable def DiagramText_n19 : Code := cL DiagramText_n17
noncomputable def DiagramText_n20 : Code := cL DiagramText_n19
noncomputable def DiagramText_n21 : Code := cR DiagramText_n19
noncomputable def DiagramText_n22 : Code := cL DiagramText_n21
noncomputable def DiagramText_n23 : Code := cR DiagramText_n21
noncomputable def DiagramText_n24 : Code := cL DiagramText_n23
noncomputable def DiagramText_n25 : Code := cR DiagramText_n23
noncomputable def DiagramText_n26 : Code := cL DiagramText_n24
noncomputable def DiagramText_n27 : Code := cR DiagramText_n24
noncomputable def DiagramText_n28 : Code := cL DiagramText_n27
noncomputable def DiagramText_n29 : Code := cR DiagramText_n27
noncomputable def DiagramText_n30 : Code := cL DiagramText_n6
noncomputable def DiagramText_n31 : Code := cR DiagramText_n6
noncomputable def DiagramText_n32 : Code := cL DiagramText_n30
noncomputable def DiagramText_n33 : Code := cR DiagramText_n30
noncomputable def DiagramText_n34 : Code := cL DiagramText_n33
noncomputable def DiagramText_n35 : Code := cL DiagramText_n34
noncomputable def DiagramText_n36 : Code := cL DiagramText_n35
noncomputable def DiagramText_n37 : Code := cR DiagramText_n35
noncomputable def DiagramText_n38 : Code := cL DiagramText_n36
noncomputable def DiagramText_n39 : Code := cR DiagramText_n36
noncomputable def DiagramText_n40 : Code := cL DiagramText_n39
noncomputable def DiagramText_n41 : Code := cR DiagramText_n39
noncomputable def DiagramText_n42 : Code := cL DiagramText_n37
noncomputable def DiagramText_n43 : Code := cR DiagramText_n37
noncomputable def DiagramText_n44 : Code := cL DiagramText_n42
noncomputable def DiagramText_n45 : Code := cL DiagramText_n31
noncomputable def DiagramText_n46 : Code := cR DiagramText_n31
set_option maxHeartbeats 1000000 in
set_option maxRecDepth 10000 in
theorem DiagramText_q {w : World} {M : Hp} {X : Fr} (d : Dg) {dcrsA : Option Addr} {dcrsc : Nat} (hdcrs : RdA cdCr (M.un X.h) dcrsA dcrsc d.crs) (hn : d.crs.length ≤ 16) (hab : arcsB d = true) (hlo : 0 ≤ d.loops ∧ d.loops ≤ 16) (hne : 1 ≤ (allT d).length) (S : SH w M X []) : Cq Tryd.prog 12 [.agg [.slice dcrsA d.crs.length dcrsc, .int .i64 d.loops].toArray] w M X (fun u => u = .string (sB ((allT d).drop 1))) := by
 unfold Cq
 have rmhdcrs : d.crs.length * 40 ≤ 140737488355328 := hdcrs.room
 refine calls_in (b := DiagramText_n0) Tryd.func12 rfl Tryd.ntmps12 rfl (fun C hC => ?_)
 refine ws_sub [(0, _)] ⟨rfl, trivial⟩ ?_
 refine ws_seqN DiagramText_n1 DiagramText_n2 rfl rfl rfl ?_
 refine ws_region rfl ?_
 refine wlo 0 1 rfl rfl rfl (wo_box (l := [_, _]) rfl rfl rfl rfl rfl S ?_)
 intro gb1 w1 S1; clear S
 refine wla 1 2 rfl rfl rfl rfl rfl rfl rfl ?_
 refine wl_end rfl ?_
 refine nm_sub [(1, _)] ⟨rfl, trivial⟩ ?_
 refine nm_thn ?_
 refine ws_seqN DiagramText_n3 DiagramText_n4 rfl rfl rfl ?_
 refine ws_region rfl ?_
 refine wla 0 1 rfl rfl rfl rfl rfl rfl rfl ?_
 refine wl_end rfl ?_
 refine nm_thn ?_
 refine ws_seqN DiagramText_n5 DiagramText_n6 rfl rfl rfl ?_
 refine ws_seqN DiagramText_n7 DiagramText_n8 rfl rfl rfl ?_
 refine ws_region rfl ?_
 refine wla 0 1 rfl rfl rfl rfl rfl rfl rfl ?_
 refine wl_end rfl ?_
 refine nm_thn ?_
 refine ws_blockN DiagramText_n9 0 rfl rfl rfl ?_
 refine ws_loopE (fun mx_ ax_ wx_ => ∃ (i : Nat) (s9 : List UInt8), mx_ = d.crs.length - i ∧ Env 57 [(1, .pointer (some ⟨gb1, 0, none⟩)), (3, .string (sB s9)), (4, .int .i64 (i : Int))] ax_ ∧ SH wx_ M X [Rs.box gb1 31 [.slice dcrsA d.crs.length dcrsc, .int .i64 d.loops]] ∧ i ≤ d.crs.length ∧ s9 = (((d.crs.take i).map crT).map ([32] ++ ·)).flatten ∧ s9.length ≤ 16 * i) rfl ?_ ?_
 ·intro ax_ hax_
  refine ⟨_, ⟨0, ([] : List UInt8), rfl, hax_.sub ⟨rfl, rfl, rfl, trivial⟩, S1.pick [0] [_] (by decide) ⟨rfl, trivial⟩, ?hq1f0, ?hq1f1, ?hq1f2⟩⟩
  case hq1f0 => omega
  case hq1f1 => rfl
  case hq1f2 => exact Nat.le_refl _
 ·rintro m1 a1 w2 ⟨i, s9, rfl, he1, S2, hi, hs9, hsl⟩
  clear S1
  refine ws_in he1 (c := DiagramText_n10) rfl ?_
  clear he1 a1
  refine ws_seqN DiagramText_n11 DiagramText_n12 rfl rfl rfl ?_
  refine ws_seqN DiagramText_n13 DiagramText_n14 rfl rfl rfl ?_
  refine ws_region rfl ?_
  refine wlm 0 1 rfl rfl rfl rfl rfl rfl rfl ?_
  refine wlo 1 2 rfl rfl rfl (wo_run rfl rfl (run_fieldAddr rfl rfl Tryd.underlying31 rfl (ce29) (nf29)) ?_)
  refine wlo 2 3 rfl rfl rfl (wo_run rfl rfl (run_load1 rfl rfl Tryd.underlying29 rfl (S2.boxc (i := 0) rfl rfl)) ?_)
  refine wlo 3 4 rfl rfl rfl (wo_run rfl rfl (run_len rfl rfl rfl rfl rfl rfl Tryd.underlying29) ?_)
  refine wlo 4 5 rfl rfl rfl (wo_run rfl rfl (run_lss rfl rfl rfl) ?_)
  refine wl_end rfl ?_
  refine nm_sub [(1, _), (3, _), (4, _), (12, _)] ⟨rfl, rfl, rfl, rfl, trivial⟩ ?_
  refine nm_thn ?_
  refine ws_condN DiagramText_n15 DiagramText_n16 rfl rfl rfl rfl (fun hb12 => ?_) (fun hb12 => ?_)
  ·replace hb12 := of_decide_eq_true hb12
   refine ws_skip rfl ?_
   refine nm_sub [(1, _), (3, _), (4, _)] ⟨rfl, rfl, rfl, trivial⟩ ?_
   refine nm_thn ?_
   refine ws_seqN DiagramText_n17 DiagramText_n18 rfl rfl rfl ?_
   refine ws_blockN DiagramText_n19 1 rfl rfl rfl ?_
   refine ws_seqN DiagramText_n20 DiagramText_n21 rfl rfl rfl ?_
   refine ws_region rfl ?_
   refine wlo 0 1 rfl rfl rfl (wo_run rfl rfl (run_fieldAddr rfl rfl Tryd.underlying31 rfl (ce29) (nf29)) ?_)
   refine wlo 1 2 rfl rfl rfl (wo_run rfl rfl (run_load1 rfl rfl Tryd.underlying29 rfl (S2.boxc (i := 0) rfl rfl)) ?_)
   refine wlm 2 3 rfl rfl rfl rfl rfl rfl rfl ?_
   refine wlo 3 4 rfl rfl rfl (wo_run rfl rfl (run_indexM (C := cdCr) i rfl rfl rfl sl29 (by first | rfl | omega) hdcrs (by first | omega | (simp only [lens]; omega))) ?_)
   refine wlo 4 5 rfl rfl rfl (wo_run rfl rfl (run_loadN (us := [_, _, _, _, _]) rfl rfl Tryd.underlying42 rfl sz42 (hdcrs.cellsAt S2.um (e := i) (by first | omega | (simp only [lens]; omega)) (j := 0) ⟨rfl, rfl, rfl, rfl, rfl, trivial⟩)) ?_)
   refine wlo 5 6 rfl rfl rfl (wo_alloc (l := [_, _, _, _, _]) rfl rfl rfl zr42 rfl S2 ?_)
   intro gb2 w3 S3; clear S2
   refine wlo 6 7 rfl rfl rfl (wo_storeB (i := 0) (us := [_, _, _, _, _]) (l' := [_, _, _, _, _]) (H' := [_, _]) rfl rfl S3 rfl rfl rfl rfl sz42 rfl rfl rfl rfl ?_)
   intro w4 S4; clear S3
   refine wl_end rfl ?_
   refine nm_sub [(1, _), (3, _), (4, _), (5, _)] ⟨rfl, rfl, rfl, rfl, trivial⟩ ?_
   refine nm_thn ?_
   refine ws_seqN DiagramText_n22 DiagramText_n23 rfl rfl rfl ?_
   refine ws_region rfl ?_
   refine wla 0 1 rfl rfl rfl rfl rfl rfl rfl ?_
   refine wl_end rfl ?_
   refine nm_thn ?_
   refine ws_seqN DiagramText_n24 DiagramText_n25 rfl rfl rfl ?_
   refine ws_seqN DiagramText_n26 DiagramText_n27 rfl rfl rfl ?_
   refine ws_region rfl ?_
   refine wlo 0 1 rfl rfl rfl (wo_run rfl rfl (run_fieldAddr rfl rfl Tryd.underlying42 rfl (ce4) (nf4)) ?_)
   refine wlo 1 2 rfl rfl rfl (wo_run rfl rfl (run_load1 rfl rfl Tryd.underlying4 rfl (S4.boxc (i := 0) rfl rfl)) ?_)
   refine wl_end rfl ?_
   refine nm_sub [(1, _), (3, _), (4, _), (5, _), (6, _), (21, _)] ⟨rfl, rfl, rfl, rfl, rfl, rfl, trivial⟩ ?_
   refine nm_thn ?_
   refine ws_condN DiagramText_n28 DiagramText_n29 rfl rfl rfl rfl (fun hb21 => ?_) (fun hb21 => ?_)
   ·refine ws_region rfl ?_
    refine wla 0 1 rfl rfl rfl rfl rfl rfl rfl ?_
    refine wl_end rfl ?_
    refine nm_sub [(1, _), (3, _), (4, _), (5, _), (6, _)] ⟨rfl, rfl, rfl, rfl, rfl, trivial⟩ ?_
    refine nm_thn ?_
    have hsd0 : 1 ≤ (ga d.crs i).a ∧ (ga d.crs i).a ≤ 2 * (d.crs.length : Int) := arcAt_bd hab (show i < d.crs.length by omega) (k := 0) (by omega)
    have hsd1 : 1 ≤ (ga d.crs i).b ∧ (ga d.crs i).b ≤ 2 * (d.crs.length : Int) := arcAt_bd hab (show i < d.crs.length by omega) (k := 1) (by omega)
    have hsd2 : 1 ≤ (ga d.crs i).c ∧ (ga d.crs i).c ≤ 2 * (d.crs.length : Int) := arcAt_bd hab (show i < d.crs.length by omega) (k := 2) (by omega)
    have hsd3 : 1 ≤ (ga d.crs i).d ∧ (ga d.crs i).d ≤ 2 * (d.crs.length : Int) := arcAt_bd hab (show i < d.crs.length by omega) (k := 3) (by omega)
    obtain ⟨hld1, hld2, hld3, hld4⟩ := arcs_bd hab hn (show i < d.crs.length by omega)
    refine ws_draw rfl (by kernel_rfl) S4 26 rfl ?_
    clear S4
    refine wa_takeP (i := 0) (d := 22) 25 rfl (by kernel_rfl) (by kernel_rfl) (by kernel_rfl) rfl rfl rfl (fun w5 => run_move rfl rfl) ?_
    refine wa_takeP (i := 1) (d := 23) 24 rfl (by kernel_rfl) (by kernel_rfl) (by kernel_rfl) rfl rfl rfl (fun w6 => run_addS rfl rfl rfl ((by simp only [List.length_append, List.length_cons, List.length_nil]; first | omega | (simp only [lens]; omega)))) ?_
    refine wa_takeP (i := 2) (d := 24) 23 rfl (by kernel_rfl) (by kernel_rfl) (by kernel_rfl) rfl rfl rfl (fun w7 => run_move rfl rfl) ?_
    refine wa_takeP (i := 3) (d := 25) 22 rfl (by kernel_rfl) (by kernel_rfl) (by kernel_rfl) rfl rfl rfl (fun w8 => run_addS rfl rfl rfl ((by simp only [List.length_append, List.length_cons, List.length_nil]; first | omega | (simp only [lens]; omega)))) ?_
    refine wa_takeP (i := 4) (d := 26) 21 rfl (by kernel_rfl) (by kernel_rfl) (by kernel_rfl) rfl rfl rfl (fun w9 => run_addS rfl rfl rfl ((by simp only [List.length_append, List.length_cons, List.length_nil]; first | omega | (simp only [lens]; omega)))) ?_
    refine wa_takeP (i := 5) (d := 27) 20 rfl (by kernel_rfl) (by kernel_rfl) (by kernel_rfl) rfl rfl rfl (fun w10 => run_fieldAddr rfl rfl Tryd.underlying42 rfl (ce3) (nf3)) ?_
    refine wa_take (i := 6) (d := 28) 19 rfl (by kernel_rfl) (by kernel_rfl) (by kernel_rfl) rfl rfl rfl (fun M7 N7 w11 hle8 S11 => .inl (run_load1 rfl rfl Tryd.underlying3 rfl (S11.suf.boxc (i := 0) rfl rfl))) ?_
    refine wa_take (i := 7) (d := 29) 18 rfl (by kernel_rfl) (by kernel_rfl) (by kernel_rfl) rfl rfl rfl (fun M8 N8 w12 hle9 S12 => yield_cq rfl rfl rfl rfl rfl cf15 S12 (dec_i ((ga d.crs i).a) ((by omega)) S12.lend)) ?_
    refine wa_takeP (i := 8) (d := 30) 17 rfl (by kernel_rfl) (by kernel_rfl) (by kernel_rfl) rfl rfl rfl (fun w13 => run_addS rfl rfl rfl ((by simp only [List.length_append, List.length_cons, List.length_nil]; first | omega | (simp only [lens]; omega)))) ?_
    refine wa_takeP (i := 9) (d := 31) 16 rfl (by kernel_rfl) (by kernel_rfl) (by kernel_rfl) rfl rfl rfl (fun w14 => run_addS rfl rfl rfl ((by simp only [List.length_append, List.length_cons, List.length_nil]; first | omega | (simp only [lens]; omega)))) ?_
    refine wa_takeP (i := 10) (d := 32) 15 rfl (by kernel_rfl) (by kernel_rfl) (by kernel_rfl) rfl rfl rfl (fun w15 => run_fieldAddr rfl rfl Tryd.underlying42 rfl (ce3) (nf3)) ?_
    refine wa_take (i := 11) (d := 33) 14 rfl (by kernel_rfl) (by kernel_rfl) (by kernel_rfl) rfl rfl rfl (fun M12 N12 w16 hle13 S16 => .inl (run_load1 rfl rfl Tryd.underlying3 rfl (S16.suf.boxc (i := 0) rfl rfl))) ?_
    refine wa_take (i := 12) (d := 34) 13 rfl (by kernel_rfl) (by kernel_rfl) (by kernel_rfl) rfl rfl rfl (fun M13 N13 w17 hle14 S17 => yield_cq rfl rfl rfl rfl rfl cf15 S17 (dec_i ((ga d.crs i).b) ((by omega)) S17.lend)) ?_
    refine wa_takeP (i := 13) (d := 35) 12 rfl (by kernel_rfl) (by kernel_rfl) (by kernel_rfl) rfl rfl rfl (fun w18 => run_addS rfl rfl rfl ((by simp only [List.length_append, List.length_cons, List.length_nil]; first | omega | (simp only [lens]; omega)))) ?_
    refine wa_takeP (i := 14) (d := 36) 11 rfl (by kernel_rfl) (by kernel_rfl) (by kernel_rfl) rfl rfl rfl (fun w19 => run_addS rfl rfl rfl ((by simp only [List.length_append, List.length_cons, List.length_nil]; first | omega | (simp only [lens]; omega)))) ?_
    refine wa_takeP (i := 15) (d := 37) 10 rfl (by kernel_rfl) (by kernel_rfl) (by kernel_rfl) rfl rfl rfl (fun w20 => run_fieldAddr rfl rfl Tryd.underlying42 rfl (ce3) (nf3)) ?_
    refine wa_take (i := 16) (d := 38) 9 rfl (by kernel_rfl) (by kernel_rfl) (by kernel_rfl) rfl rfl rfl (fun M17 N17 w21 hle18 S21 => .inl (run_load1 rfl rfl Tryd.underlying3 rfl (S21.suf.boxc (i := 0) rfl rfl))) ?_
    refine wa_take (i := 17) (d := 39) 8 rfl (by kernel_rfl) (by kernel_rfl) (by kernel_rfl) rfl rfl rfl (fun M18 N18 w22 hle19 S22 => yield_cq rfl rfl rfl rfl rfl cf15 S22 (dec_i ((ga d.crs i).c) ((by omega)) S22.lend)) ?_
    refine wa_takeP (i := 18) (d := 40) 7 rfl (by kernel_rfl) (by kernel_rfl) (by kernel_rfl) rfl rfl rfl (fun w23 => run_addS rfl rfl rfl ((by simp only [List.length_append, List.length_cons, List.length_nil]; first | omega | (simp only [lens]; omega)))) ?_
    refine wa_takeP (i := 19) (d := 41) 6 rfl (by kernel_rfl) (by kernel_rfl) (by kernel_rfl) rfl rfl rfl (fun w24 => run_addS rfl rfl rfl ((by simp only [List.length_append, List.length_cons, List.length_nil]; first | omega | (simp only [lens]; omega)))) ?_
    refine wa_takeP (i := 20) (d := 42) 5 rfl (by kernel_rfl) (by kernel_rfl) (by kernel_rfl) rfl rfl rfl (fun w25 => run_fieldAddr rfl rfl Tryd.underlying42 rfl (ce3) (nf3)) ?_
    refine wa_take (i := 21) (d := 43) 4 rfl (by kernel_rfl) (by kernel_rfl) (by kernel_rfl) rfl rfl rfl (fun M22 N22 w26 hle23 S26 => .inl (run_load1 rfl rfl Tryd.underlying3 rfl (S26.suf.boxc (i := 0) rfl rfl))) ?_
    refine wa_take (i := 22) (d := 44) 3 rfl (by kernel_rfl) (by kernel_rfl) (by kernel_rfl) rfl rfl rfl (fun M23 N23 w27 hle24 S27 => yield_cq rfl rfl rfl rfl rfl cf15 S27 (dec_i ((ga d.crs i).d) ((by omega)) S27.lend)) ?_
    refine wa_takeP (i := 23) (d := 45) 2 rfl (by kernel_rfl) (by kernel_rfl) (by kernel_rfl) rfl rfl rfl (fun w28 => run_addS rfl rfl rfl ((by simp only [List.length_append, List.length_cons, List.length_nil]; first | omega | (simp only [lens]; omega)))) ?_
    refine wa_takeP (i := 24) (d := 46) 1 rfl (by kernel_rfl) (by kernel_rfl) (by kernel_rfl) rfl rfl rfl (fun w29 => run_addS rfl rfl rfl ((by simp only [List.length_append, List.length_cons, List.length_nil]; first | omega | (simp only [lens]; omega)))) ?_
    refine wa_takeP (i := 25) (d := 3) 0 rfl (by kernel_rfl) (by kernel_rfl) (by kernel_rfl) rfl rfl rfl (fun w30 => run_assign rfl rfl) ?_
    refine wa_end (by kernel_rfl) (fun w31 S31 => ?_)
    refine nm_blk ?_
    refine nm_sub [(1, _), (3, _), (4, _)] ⟨rfl, rfl, rfl, trivial⟩ ?_
    refine nm_thn ?_
    refine ws_region rfl ?_
    refine wlm 0 1 rfl rfl rfl rfl rfl rfl rfl ?_
    refine wlo 1 2 rfl rfl rfl (wo_run rfl rfl (run_add rfl rfl rfl (by first | omega | (simp only [lens]; omega))) ?_)
    refine wla 2 3 rfl rfl rfl rfl rfl rfl rfl ?_
    refine wl_end rfl ?_
    refine nm_lp ?_
    intro ax_ hax_
    refine ⟨_, ?hq2m, ⟨i + 1, (((((((((((s9 ++ ([32, 88] : List UInt8)) ++ ([43] : List UInt8)) ++ ([91] : List UInt8)) ++ (dcT ((ga d.crs i).a))) ++ ([44] : List UInt8)) ++ (dcT ((ga d.crs i).b))) ++ ([44] : List UInt8)) ++ (dcT ((ga d.crs i).c))) ++ ([44] : List UInt8)) ++ (dcT ((ga d.crs i).d))) ++ ([93] : List UInt8)), rfl, hax_.sub ⟨rfl, rfl, rfl, trivial⟩, S31.pick [1] [_] (by decide) ⟨rfl, trivial⟩, ?hq2f0, ?hq2f1, ?hq2f2⟩⟩
    case hq2f0 => omega
    case hq2f1 => (rw [take_ga d.crs i (by omega), List.map_append, List.map_append, List.flatten_append, ← hs9]; exact text_step _ _ _ (by unfold headT; first | (rw [if_pos (by assumption)]; rfl) | (rw [if_neg (by rw [hb21]; decide)]; rfl)))
    case hq2f2 => (simp only [List.length_append, List.length_cons, List.length_nil]; omega)
    case hq2m => omega
   ·refine ws_skip rfl ?_
    refine nm_sub [(1, _), (3, _), (4, _), (5, _), (6, _)] ⟨rfl, rfl, rfl, rfl, rfl, trivial⟩ ?_
    refine nm_thn ?_
    have hsd0 : 1 ≤ (ga d.crs i).a ∧ (ga d.crs i).a ≤ 2 * (d.crs.length : Int) := arcAt_bd hab (show i < d.crs.length by omega) (k := 0) (by omega)
    have hsd1 : 1 ≤ (ga d.crs i).b ∧ (ga d.crs i).b ≤ 2 * (d.crs.length : Int) := arcAt_bd hab (show i < d.crs.length by omega) (k := 1) (by omega)
    have hsd2 : 1 ≤ (ga d.crs i).c ∧ (ga d.crs i).c ≤ 2 * (d.crs.length : Int) := arcAt_bd hab (show i < d.crs.length by omega) (k := 2) (by omega)
    have hsd3 : 1 ≤ (ga d.crs i).d ∧ (ga d.crs i).d ≤ 2 * (d.crs.length : Int) := arcAt_bd hab (show i < d.crs.length by omega) (k := 3) (by omega)
    obtain ⟨hld1, hld2, hld3, hld4⟩ := arcs_bd hab hn (show i < d.crs.length by omega)
    refine ws_draw rfl (by kernel_rfl) S4 26 rfl ?_
    clear S4
    refine wa_takeP (i := 0) (d := 22) 25 rfl (by kernel_rfl) (by kernel_rfl) (by kernel_rfl) rfl rfl rfl (fun w32 => run_move rfl rfl) ?_
    refine wa_takeP (i := 1) (d := 23) 24 rfl (by kernel_rfl) (by kernel_rfl) (by kernel_rfl) rfl rfl rfl (fun w33 => run_addS rfl rfl rfl ((by simp only [List.length_append, List.length_cons, List.length_nil]; first | omega | (simp only [lens]; omega)))) ?_
    refine wa_takeP (i := 2) (d := 24) 23 rfl (by kernel_rfl) (by kernel_rfl) (by kernel_rfl) rfl rfl rfl (fun w34 => run_move rfl rfl) ?_
    refine wa_takeP (i := 3) (d := 25) 22 rfl (by kernel_rfl) (by kernel_rfl) (by kernel_rfl) rfl rfl rfl (fun w35 => run_addS rfl rfl rfl ((by simp only [List.length_append, List.length_cons, List.length_nil]; first | omega | (simp only [lens]; omega)))) ?_
    refine wa_takeP (i := 4) (d := 26) 21 rfl (by kernel_rfl) (by kernel_rfl) (by kernel_rfl) rfl rfl rfl (fun w36 => run_addS rfl rfl rfl ((by simp only [List.length_append, List.length_cons, List.length_nil]; first | omega | (simp only [lens]; omega)))) ?_
    refine wa_takeP (i := 5) (d := 27) 20 rfl (by kernel_rfl) (by kernel_rfl) (by kernel_rfl) rfl rfl rfl (fun w37 => run_fieldAddr rfl rfl Tryd.underlying42 rfl (ce3) (nf3)) ?_
    refine wa_take (i := 6) (d := 28) 19 rfl (by kernel_rfl) (by kernel_rfl) (by kernel_rfl) rfl rfl rfl (fun M33 N33 w38 hle34 S38 => .inl (run_load1 rfl rfl Tryd.underlying3 rfl (S38.suf.boxc (i := 0) rfl rfl))) ?_
    refine wa_take (i := 7) (d := 29) 18 rfl (by kernel_rfl) (by kernel_rfl) (by kernel_rfl) rfl rfl rfl (fun M34 N34 w39 hle35 S39 => yield_cq rfl rfl rfl rfl rfl cf15 S39 (dec_i ((ga d.crs i).a) ((by omega)) S39.lend)) ?_
    refine wa_takeP (i := 8) (d := 30) 17 rfl (by kernel_rfl) (by kernel_rfl) (by kernel_rfl) rfl rfl rfl (fun w40 => run_addS rfl rfl rfl ((by simp only [List.length_append, List.length_cons, List.length_nil]; first | omega | (simp only [lens]; omega)))) ?_
    refine wa_takeP (i := 9) (d := 31) 16 rfl (by kernel_rfl) (by kernel_rfl) (by kernel_rfl) rfl rfl rfl (fun w41 => run_addS rfl rfl rfl ((by simp only [List.length_append, List.length_cons, List.length_nil]; first | omega | (simp only [lens]; omega)))) ?_
    refine wa_takeP (i := 10) (d := 32) 15 rfl (by kernel_rfl) (by kernel_rfl) (by kernel_rfl) rfl rfl rfl (fun w42 => run_fieldAddr rfl rfl Tryd.underlying42 rfl (ce3) (nf3)) ?_
    refine wa_take (i := 11) (d := 33) 14 rfl (by kernel_rfl) (by kernel_rfl) (by kernel_rfl) rfl rfl rfl (fun M38 N38 w43 hle39 S43 => .inl (run_load1 rfl rfl Tryd.underlying3 rfl (S43.suf.boxc (i := 0) rfl rfl))) ?_
    refine wa_take (i := 12) (d := 34) 13 rfl (by kernel_rfl) (by kernel_rfl) (by kernel_rfl) rfl rfl rfl (fun M39 N39 w44 hle40 S44 => yield_cq rfl rfl rfl rfl rfl cf15 S44 (dec_i ((ga d.crs i).b) ((by omega)) S44.lend)) ?_
    refine wa_takeP (i := 13) (d := 35) 12 rfl (by kernel_rfl) (by kernel_rfl) (by kernel_rfl) rfl rfl rfl (fun w45 => run_addS rfl rfl rfl ((by simp only [List.length_append, List.length_cons, List.length_nil]; first | omega | (simp only [lens]; omega)))) ?_
    refine wa_takeP (i := 14) (d := 36) 11 rfl (by kernel_rfl) (by kernel_rfl) (by kernel_rfl) rfl rfl rfl (fun w46 => run_addS rfl rfl rfl ((by simp only [List.length_append, List.length_cons, List.length_nil]; first | omega | (simp only [lens]; omega)))) ?_
    refine wa_takeP (i := 15) (d := 37) 10 rfl (by kernel_rfl) (by kernel_rfl) (by kernel_rfl) rfl rfl rfl (fun w47 => run_fieldAddr rfl rfl Tryd.underlying42 rfl (ce3) (nf3)) ?_
    refine wa_take (i := 16) (d := 38) 9 rfl (by kernel_rfl) (by kernel_rfl) (by kernel_rfl) rfl rfl rfl (fun M43 N43 w48 hle44 S48 => .inl (run_load1 rfl rfl Tryd.underlying3 rfl (S48.suf.boxc (i := 0) rfl rfl))) ?_
    refine wa_take (i := 17) (d := 39) 8 rfl (by kernel_rfl) (by kernel_rfl) (by kernel_rfl) rfl rfl rfl (fun M44 N44 w49 hle45 S49 => yield_cq rfl rfl rfl rfl rfl cf15 S49 (dec_i ((ga d.crs i).c) ((by omega)) S49.lend)) ?_
    refine wa_takeP (i := 18) (d := 40) 7 rfl (by kernel_rfl) (by kernel_rfl) (by kernel_rfl) rfl rfl rfl (fun w50 => run_addS rfl rfl rfl ((by simp only [List.length_append, List.length_cons, List.length_nil]; first | omega | (simp only [lens]; omega)))) ?_
    refine wa_takeP (i := 19) (d := 41) 6 rfl (by kernel_rfl) (by kernel_rfl) (by kernel_rfl) rfl rfl rfl (fun w51 => run_addS rfl rfl rfl ((by simp only [List.length_append, List.length_cons, List.length_nil]; first | omega | (simp only [lens]; omega)))) ?_
    refine wa_takeP (i := 20) (d := 42) 5 rfl (by kernel_rfl) (by kernel_rfl) (by kernel_rfl) rfl rfl rfl (fun w52 => run_fieldAddr rfl rfl Tryd.underlying42 rfl (ce3) (nf3)) ?_
    refine wa_take (i := 21) (d := 43) 4 rfl (by kernel_rfl) (by kernel_rfl) (by kernel_rfl) rfl rfl rfl (fun M48 N48 w53 hle49 S53 => .inl (run_load1 rfl rfl Tryd.underlying3 rfl (S53.suf.boxc (i := 0) rfl rfl))) ?_
    refine wa_take (i := 22) (d := 44) 3 rfl (by kernel_rfl) (by kernel_rfl) (by kernel_rfl) rfl rfl rfl (fun M49 N49 w54 hle50 S54 => yield_cq rfl rfl rfl rfl rfl cf15 S54 (dec_i ((ga d.crs i).d) ((by omega)) S54.lend)) ?_
    refine wa_takeP (i := 23) (d := 45) 2 rfl (by kernel_rfl) (by kernel_rfl) (by kernel_rfl) rfl rfl rfl (fun w55 => run_addS rfl rfl rfl ((by simp only [List.length_append, List.length_cons, List.length_nil]; first | omega | (simp only [lens]; omega)))) ?_
    refine wa_takeP (i := 24) (d := 46) 1 rfl (by kernel_rfl) (by kernel_rfl) (by kernel_rfl) rfl rfl rfl (fun w56 => run_addS rfl rfl rfl ((by simp only [List.length_append, List.length_cons, List.length_nil]; first | omega | (simp only [lens]; omega)))) ?_
    refine wa_takeP (i := 25) (d := 3) 0 rfl (by kernel_rfl) (by kernel_rfl) (by kernel_rfl) rfl rfl rfl (fun w57 => run_assign rfl rfl) ?_
    refine wa_end (by kernel_rfl) (fun w58 S58 => ?_)
    refine nm_blk ?_
    refine nm_sub [(1, _), (3, _), (4, _)] ⟨rfl, rfl, rfl, trivial⟩ ?_
    refine nm_thn ?_
    refine ws_region rfl ?_
    refine wlm 0 1 rfl rfl rfl rfl rfl rfl rfl ?_
    refine wlo 1 2 rfl rfl rfl (wo_run rfl rfl (run_add rfl rfl rfl (by first | omega | (simp only [lens]; omega))) ?_)
    refine wla 2 3 rfl rfl rfl rfl rfl rfl rfl ?_
    refine wl_end rfl ?_
    refine nm_lp ?_
    intro ax_ hax_
    refine ⟨_, ?hq3m, ⟨i + 1, (((((((((((s9 ++ ([32, 88] : List UInt8)) ++ ([45] : List UInt8)) ++ ([91] : List UInt8)) ++ (dcT ((ga d.crs i).a))) ++ ([44] : List UInt8)) ++ (dcT ((ga d.crs i).b))) ++ ([44] : List UInt8)) ++ (dcT ((ga d.crs i).c))) ++ ([44] : List UInt8)) ++ (dcT ((ga d.crs i).d))) ++ ([93] : List UInt8)), rfl, hax_.sub ⟨rfl, rfl, rfl, trivial⟩, S58.pick [1] [_] (by decide) ⟨rfl, trivial⟩, ?hq3f0, ?hq3f1, ?hq3f2⟩⟩
    case hq3f0 => omega
    case hq3f1 => (rw [take_ga d.crs i (by omega), List.map_append, List.map_append, List.flatten_append, ← hs9]; exact text_step _ _ _ (by unfold headT; first | (rw [if_pos (by assumption)]; rfl) | (rw [if_neg (by rw [hb21]; decide)]; rfl)))
    case hq3f2 => (simp only [List.length_append, List.length_cons, List.length_nil]; omega)
    case hq3m => omega
  ·replace hb12 := of_decide_eq_false hb12
   refine ws_exit rfl rfl ?_
   refine nm_sub [(1, _), (3, _)] ⟨rfl, rfl, trivial⟩ ?_
   refine nm_thn ?_
   refine ws_seqN DiagramText_n30 DiagramText_n31 rfl rfl rfl ?_
   refine ws_seqN DiagramText_n32 DiagramText_n33 rfl rfl rfl ?_
   refine ws_region rfl ?_
   refine wla 0 1 rfl rfl rfl rfl rfl rfl rfl ?_
   refine wl_end rfl ?_
   refine nm_thn ?_
   refine ws_blockN DiagramText_n34 2 rfl rfl rfl ?_
   refine ws_loopE (fun mx_ ax_ wx_ => ∃ (j : Nat) (s8 : List UInt8), mx_ = d.loops.toNat - j ∧ Env 57 [(1, .pointer (some ⟨gb1, 0, none⟩)), (3, .string (sB s8)), (7, .int .i64 (j : Int))] ax_ ∧ SH wx_ M X [Rs.box gb1 31 [.slice dcrsA d.crs.length dcrsc, .int .i64 d.loops]] ∧ (j : Int) ≤ d.loops ∧ s8 = ((d.crs.map crT).map ([32] ++ ·)).flatten ++ (List.replicate j [32, 79]).flatten ∧ s8.length ≤ 256 + 2 * j) rfl ?_ ?_
   ·intro ax_ hax_
    refine ⟨_, ⟨0, s9, rfl, hax_.sub ⟨rfl, rfl, rfl, trivial⟩, S2.pick [0] [_] (by decide) ⟨rfl, trivial⟩, ?hq4f0, ?hq4f1, ?hq4f2⟩⟩
    case hq4f0 => omega
    case hq4f1 => (have e9 : i = d.crs.length := (by omega); rw [hs9, e9, List.take_length, List.replicate_zero, List.flatten_nil, List.append_nil])
    case hq4f2 => omega
   ·rintro m2 a2 w59 ⟨j, s8, rfl, he2, S59, hj, hs8, hsl8⟩
    clear S2
    refine ws_in he2 (c := DiagramText_n35) rfl ?_
    clear he2 a2
    refine ws_seqN DiagramText_n36 DiagramText_n37 rfl rfl rfl ?_
    refine ws_seqN DiagramText_n38 DiagramText_n39 rfl rfl rfl ?_
    refine ws_region rfl ?_
    refine wlm 0 1 rfl rfl rfl rfl rfl rfl rfl ?_
    refine wlo 1 2 rfl rfl rfl (wo_run rfl rfl (run_fieldAddr rfl rfl Tryd.underlying31 rfl (ce3) (nf3)) ?_)
    refine wlo 2 3 rfl rfl rfl (wo_run rfl rfl (run_load1 rfl rfl Tryd.underlying3 rfl (S59.boxc (i := 0) rfl rfl)) ?_)
    refine wlo 3 4 rfl rfl rfl (wo_run rfl rfl (run_lss rfl rfl rfl) ?_)
    refine wl_end rfl ?_
    refine nm_sub [(1, _), (3, _), (7, _), (50, _)] ⟨rfl, rfl, rfl, rfl, trivial⟩ ?_
    refine nm_thn ?_
    refine ws_condN DiagramText_n40 DiagramText_n41 rfl rfl rfl rfl (fun hb50 => ?_) (fun hb50 => ?_)
    ·replace hb50 := of_decide_eq_true hb50
     refine ws_skip rfl ?_
     refine nm_sub [(1, _), (3, _), (7, _)] ⟨rfl, rfl, rfl, trivial⟩ ?_
     refine nm_thn ?_
     refine ws_seqN DiagramText_n42 DiagramText_n43 rfl rfl rfl ?_
     refine ws_blockN DiagramText_n44 3 rfl rfl rfl ?_
     refine ws_region rfl ?_
     refine wlm 0 1 rfl rfl rfl rfl rfl rfl rfl ?_
     refine wlo 1 2 rfl rfl rfl (wo_run rfl rfl (run_addS rfl rfl rfl ((by simp only [List.length_append, List.length_cons, List.length_nil]; first | omega | (simp only [lens]; omega)))) ?_)
     refine wla 2 3 rfl rfl rfl rfl rfl rfl rfl ?_
     refine wl_end rfl ?_
     refine nm_blk ?_
     refine nm_sub [(1, _), (3, _), (7, _)] ⟨rfl, rfl, rfl, trivial⟩ ?_
     refine nm_thn ?_
     refine ws_region rfl ?_
     refine wlm 0 1 rfl rfl rfl rfl rfl rfl rfl ?_
     refine wlo 1 2 rfl rfl rfl (wo_run rfl rfl (run_add rfl rfl rfl (by first | omega | (simp only [lens]; omega))) ?_)
     refine wla 2 3 rfl rfl rfl rfl rfl rfl rfl ?_
     refine wl_end rfl ?_
     refine nm_lp ?_
     intro ax_ hax_
     refine ⟨_, ?hq5m, ⟨j + 1, (s8 ++ ([32, 79] : List UInt8)), rfl, hax_.sub ⟨rfl, rfl, rfl, trivial⟩, S59.pick [0] [_] (by decide) ⟨rfl, trivial⟩, ?hq5f0, ?hq5f1, ?hq5f2⟩⟩
     case hq5f0 => omega
     case hq5f1 => (rw [hs8, List.replicate_succ', List.flatten_append, List.append_assoc]; rfl)
     case hq5f2 => (simp only [List.length_append, List.length_cons, List.length_nil]; omega)
     case hq5m => omega
    ·replace hb50 := of_decide_eq_false hb50
     refine ws_exit rfl rfl ?_
     refine nm_sub [(3, _)] ⟨rfl, trivial⟩ ?_
     refine nm_thn ?_
     refine ws_seqN DiagramText_n45 DiagramText_n46 rfl rfl rfl ?_
     have hs7 : s8 = allT d := by rw [hs8, allT_eq, show j = d.loops.toNat by omega]
     have hpos : 1 ≤ s8.length := by rw [hs7]; exact hne
     refine ws_region rfl ?_
     refine wlm 0 1 rfl rfl rfl rfl rfl rfl rfl ?_
     refine wlo 1 2 rfl rfl rfl (wo_run rfl rfl (run_drop1S rfl rfl rfl Tryd.underlying9 ((hpos))) ?_)
     refine wla 2 3 rfl rfl rfl rfl rfl rfl rfl ?_
     refine wl_end rfl ?_
     refine nm_sub [(2, _)] ⟨rfl, trivial⟩ ?_
     refine nm_thn ?_
     refine ws_ret hC [_] rfl rfl ⟨rfl, trivial⟩ ?_
     exact ⟨_, rfl, (S59.pick [] [] (by decide) trivial), (by rw [hs7]; rfl)⟩
end Go.Proofs.YtakmjhkgilijiaaDoor
namespace Go.Proofs.YtakmjhkgilijiaaDoor
open Go.ChangeShapes Go.WideShapes Go.ChangeAt Go.RowKit
noncomputable def CodeShows_n0 : Code := Tryd.f4.body.getD .skip
noncomputable def CodeShows_n1 : Code := cL CodeShows_n0
noncomputable def CodeShows_n2 : Code := cR CodeShows_n0
noncomputable def CodeShows_n3 : Code := cL CodeShows_n2
noncomputable def CodeShows_n4 : Code := cR CodeShows_n2
noncomputable def CodeShows_n5 : Code := cL CodeShows_n4
noncomputable def CodeShows_n6 : Code := cR CodeShows_n4
noncomputable def CodeShows_n7 : Code := cL CodeShows_n5
noncomputable def CodeShows_n8 : Code := cR CodeShows_n5
noncomputable def CodeShows_n9 : Code := cL CodeShows_n8
noncomputable def CodeShows_n10 : Code := cR CodeShows_n8
noncomputable def CodeShows_n11 : Code := cL CodeShows_n9
noncomputable def CodeShows_n12 : Code := cR CodeShows_n9
noncomputable def CodeShows_n13 : Code := cL CodeShows_n6
noncomputable def CodeShows_n14 : Code := cR CodeShows_n6
set_option maxRecDepth 10000 in
theorem CodeShows_t {w : World} {M : Hp} {X : Fr} (d : Dg) {dcrsA : Option Addr} {dcrsc : Nat} (hdcrs : RdA cdCr M dcrsA dcrsc d.crs) (S : SH w M X []) : Ct Tryd.prog 4 [.agg [.slice dcrsA d.crs.length dcrsc, .int .i64 d.loops].toArray] w M X (fun u _ => u = .bool true) := by
 unfold Ct
 have rmhdcrs : d.crs.length * 40 ≤ 140737488355328 := hdcrs.room
 refine calls_in (b := CodeShows_n0) Tryd.func4 rfl Tryd.ntmps4 rfl (fun C hC => ?_)
 refine ws_sub [(0, _)] ⟨rfl, trivial⟩ ?_
 refine ws_seqN CodeShows_n1 CodeShows_n2 rfl rfl rfl ?_
 refine ws_region rfl ?_
 refine wlo 0 1 rfl rfl rfl (wo_box (l := [_, _]) rfl rfl rfl rfl rfl S ?_)
 intro gb1 w1 S1; clear S
 refine wla 1 2 rfl rfl rfl rfl rfl rfl rfl ?_
 refine wl_end rfl ?_
 refine nm_sub [(1, _)] ⟨rfl, trivial⟩ ?_
 refine nm_thn ?_
 refine ws_seqN CodeShows_n3 CodeShows_n4 rfl rfl rfl ?_
 refine ws_region rfl ?_
 refine wlo 0 1 rfl rfl rfl (wo_run rfl rfl (run_loadN (us := [_, _]) rfl rfl Tryd.underlying31 rfl sz31 (S1.boxcs (i := 0) rfl ⟨rfl, rfl, trivial⟩)) ?_)
 refine wlo 1 2 rfl rfl rfl (wo_ct rfl rfl rfl rfl rfl rfl rfl cf10 S1 (DiagramOf_t d (hdcrs.mono (Hp.le_un _ _)) S1.lend) ?_)
 intro vw2 w2 M1 hle1 S2 hRw2; clear S1
 replace hdcrs := hdcrs.mono hle1
 obtain ⟨A1, c1, rfl, hr1⟩ := hRw2
 refine wlo 2 3 rfl rfl rfl (wo_ct rfl rfl rfl rfl rfl rfl rfl cf9 S2 (Show_t d (hr1.mono (Hp.le_un _ _)) S2.lend) ?_)
 intro vw3 w3 M2 hle2 S3 hRw3; clear S2
 replace hdcrs := hdcrs.mono hle2
 replace hr1 := hr1.mono hle2
 obtain rfl := hRw3
 refine wlm 3 4 rfl rfl rfl rfl rfl rfl rfl ?_
 refine wlo 4 5 rfl rfl rfl (wo_run rfl rfl (run_extract rfl rfl rfl) ?_)
 refine wlo 5 6 rfl rfl rfl (wo_run rfl rfl (run_extract rfl rfl rfl) ?_)
 refine wla 6 7 rfl rfl rfl rfl rfl rfl rfl ?_
 refine wla 7 8 rfl rfl rfl rfl rfl rfl rfl ?_
 refine wl_end rfl ?_
 refine nm_sub [(1, _), (3, _), (4, _)] ⟨rfl, rfl, rfl, trivial⟩ ?_
 refine nm_thn ?_
 refine ws_seqN CodeShows_n5 CodeShows_n6 rfl rfl rfl ?_
 refine ws_seqN CodeShows_n7 CodeShows_n8 rfl rfl rfl ?_
 refine ws_region rfl ?_
 refine wlo 0 1 rfl rfl rfl (wo_run rfl rfl (run_loadN (us := [_, _]) rfl rfl Tryd.underlying31 rfl sz31 (S3.boxcs (i := 0) rfl ⟨rfl, rfl, trivial⟩)) ?_)
 refine wlo 1 2 rfl rfl rfl (wo_cq rfl rfl rfl rfl rfl rfl rfl cf11 S3 (DiagramMay_q d (hdcrs.mono (Hp.le_un _ _)) S3.lend) ?_)
 rintro _ w4 S4 rfl; clear S3
 refine wlo 2 3 rfl rfl rfl (wo_run rfl rfl (run_not rfl rfl) ?_)
 refine wl_end rfl ?_
 refine nm_sub [(1, _), (3, _), (4, _), (13, _)] ⟨rfl, rfl, rfl, rfl, trivial⟩ ?_
 refine nm_thn ?_
 refine ws_condN CodeShows_n9 CodeShows_n10 rfl rfl rfl rfl (fun hb13 => ?_) (fun hb13 => ?_)
 ·simp only [Bool.and_eq_true, Bool.or_eq_true, Bool.and_eq_false_iff, Bool.or_eq_false_iff, decide_eq_true_eq, decide_eq_false_iff_not, Bool.not_eq_true', Bool.not_eq_false'] at hb13
  have hm9 : mayB d = false := by simpa using hb13
  have e1 : errT d = 7 := by unfold errT; rw [if_neg (by rw [hm9]; decide)]
  have e2 : shT d = [] := by unfold shT; rw [if_neg (by rw [hm9]; decide)]
  refine ws_seqN CodeShows_n11 CodeShows_n12 rfl rfl rfl ?_
  refine ws_region rfl ?_
  refine wlm 0 1 rfl rfl rfl rfl rfl rfl rfl ?_
  refine wlo 1 2 rfl rfl rfl (wo_run rfl rfl (run_eql rfl rfl rfl) ?_)
  refine wlm 2 3 rfl rfl rfl rfl rfl rfl rfl ?_
  refine wl_split (t := 16) rfl (fun hg16 => ?_) (fun hg16 => ?_)
  ·replace hg16 := of_decide_eq_true hg16
   refine wl_opG (k := 3) (k' := 4) rfl rfl ⟨_, _, _, rfl, rfl, rfl, rfl⟩ rfl (wo_run rfl rfl (run_move rfl rfl) ?_)
   refine wl_opG (k := 4) (k' := 5) rfl rfl ⟨_, _, _, rfl, rfl, rfl, rfl⟩ rfl (wo_run rfl rfl (run_eqlS rfl rfl rfl (e2)) ?_)
   refine wlo 5 6 rfl rfl rfl (wo_run rfl rfl (run_pickT rfl rfl rfl) ?_)
   refine wla 6 7 rfl rfl rfl rfl rfl rfl rfl ?_
   refine wl_end rfl ?_
   refine nm_sub [(2, _)] ⟨rfl, trivial⟩ ?_
   refine nm_thn ?_
   refine ws_ret hC [_] rfl rfl ⟨rfl, trivial⟩ ?_
   refine ⟨_, rfl, _, hle1.trans hle2, (S4.pick [] [] (by decide) trivial), ?_⟩
   show Value.bool _ = _
   refine congrArg Value.bool ?_
   first | rfl | (rw [decide_eq_true_iff]; omega) | (simp_all; done)
  ·replace hg16 := of_decide_eq_false hg16
   exfalso; omega
 ·simp only [Bool.and_eq_true, Bool.or_eq_true, Bool.and_eq_false_iff, Bool.or_eq_false_iff, decide_eq_true_eq, decide_eq_false_iff_not, Bool.not_eq_true', Bool.not_eq_false'] at hb13
  have hmay : mayB d = true := by simpa using hb13
  obtain ⟨hn, hab, hlo0, hlo1⟩ := mayO hmay
  have e1 : errT d = 0 := by unfold errT; rw [if_pos hmay]
  have e2 := shT_all hmay
  refine ws_skip rfl ?_
  refine nm_sub [(1, _), (3, _), (4, _)] ⟨rfl, rfl, rfl, trivial⟩ ?_
  refine nm_thn ?_
  refine ws_seqN CodeShows_n13 CodeShows_n14 rfl rfl rfl ?_
  refine ws_region rfl ?_
  refine wlm 0 1 rfl rfl rfl rfl rfl rfl rfl ?_
  refine wlo 1 2 rfl rfl rfl (wo_run rfl rfl (run_eql rfl rfl rfl) ?_)
  refine wlm 2 3 rfl rfl rfl rfl rfl rfl rfl ?_
  refine wl_split (t := 22) rfl (fun hg22 => ?_) (fun hg22 => ?_)
  ·replace hg22 := of_decide_eq_true hg22
   refine wl_opG (k := 3) (k' := 4) rfl rfl ⟨_, _, _, rfl, rfl, rfl, rfl⟩ rfl (wo_run rfl rfl (run_move rfl rfl) ?_)
   refine wl_opG (k := 4) (k' := 5) rfl rfl ⟨_, _, _, rfl, rfl, rfl, rfl⟩ rfl (wo_run rfl rfl (run_loadN (us := [_, _]) rfl rfl Tryd.underlying31 rfl sz31 (S4.boxcs (i := 0) rfl ⟨rfl, rfl, trivial⟩)) ?_)
   refine wl_opG (k := 5) (k' := 6) rfl rfl ⟨_, _, _, rfl, rfl, rfl, rfl⟩ rfl (wo_cq rfl rfl rfl rfl rfl rfl rfl cf12 S4 (DiagramText_q d (hdcrs.mono (Hp.le_un _ _)) (hn) (hab) (⟨hlo0, hlo1⟩) ((may_ne hmay)) S4.lend) ?_)
   rintro _ w5 S5 rfl; clear S4
   refine wl_opG (k := 6) (k' := 7) rfl rfl ⟨_, _, _, rfl, rfl, rfl, rfl⟩ rfl (wo_run rfl rfl (run_eqlS rfl rfl rfl (e2)) ?_)
   refine wlo 7 8 rfl rfl rfl (wo_run rfl rfl (run_pickT rfl rfl rfl) ?_)
   refine wla 8 9 rfl rfl rfl rfl rfl rfl rfl ?_
   refine wl_end rfl ?_
   refine nm_sub [(2, _)] ⟨rfl, trivial⟩ ?_
   refine nm_thn ?_
   refine ws_ret hC [_] rfl rfl ⟨rfl, trivial⟩ ?_
   refine ⟨_, rfl, _, hle1.trans hle2, (S5.pick [] [] (by decide) trivial), ?_⟩
   show Value.bool _ = _
   refine congrArg Value.bool ?_
   first | rfl | (rw [decide_eq_true_iff]; omega) | (simp_all; done)
  ·replace hg22 := of_decide_eq_false hg22
   exfalso; omega
end Go.Proofs.YtakmjhkgilijiaaDoor
namespace Go.Proofs.YtakmjhkgilijiaaDoor
open Go.ChangeShapes Go.WideShapes Go.ChangeAt Go.RowKit Go.Joins Go.Deep
theorem sized_in {H : Type} {P : Program} {ts : List TypeId} {ds : List (DataW H)} (h : (DataW.weightsEach P ts ds).all (· ≤ reachBytes) = true) {j i : Nat} {t e : TypeId} {f : Field} {fs : Array Field} {parts : List (DataW H)} {elems spare : List (DataW H)}
    (ht : ts[j]? = some t) (hd : ds[j]? = some (.agg parts)) (hu : P.underlying t = some (.struct fs)) (hf : fs.toList[i]? = some f) (hp : parts[i]? = some (.slice elems spare)) (he : P.underlying f.type = some (.slice e)) :
    (elems.length + spare.length) * P.bytesOf e ≤ reachBytes := by
  have m1 := DataW.weights_mem_each (P := P) (ts := fs.toList.map (·.type)) (j := i) (t := f.type) (by rw [List.getElem?_map, hf]; rfl) hp ((elems.length + spare.length) * P.bytesOf e) (by simp [DataW.weights, he])
  have m2 := DataW.weights_mem_each (P := P) ht hd ((elems.length + spare.length) * P.bytesOf e) (by simp only [DataW.weights, hu]; exact m1)
  simpa using List.all_eq_true.1 h _ m2
theorem len5 (l : List Cr) : (l.flatMap codCr.f).length = l.length * 5 := by
  induction l with
  | nil => rfl
  | cons x l ih => rw [List.flatMap_cons, List.length_append, ih, codCr.hf, List.length_cons]; show 5 + _ = _; omega
theorem take1 {l : List Value} {j : Nat} {u : Value} (h : (l.drop j).take 1 = [u]) : l[j]? = some u := by
  have := congrArg (fun z => z[0]?) h
  simpa [List.getElem?_take, List.getElem?_drop] using this
theorem pick {α : Type} [Inhabited α] {m : Nat} {Q : Nat → α → Prop} (h : ∀ i, i < m → ∃ x, Q i x) : ∃ F : Nat → α, ∀ i, i < m → Q i (F i) :=
  ⟨fun i => if hi : i < m then (h i hi).choose else default, fun i hi => by
    show Q i (if hi : i < m then (h i hi).choose else default)
    rw [dif_pos hi]; exact (h i hi).choose_spec⟩
section
variable {H : Type} {enc : TypeId × Value → H} {w : World}
theorem f_int {n j : Nat} {cs : List Value} {y : DataW H × List MemPlace} (h : DataW.trod enc Tryd.prog w 0 (fun _ => true) true n 3 ((cs.drop j).take (Tryd.prog.cellsOf 3)) = some y) : ∃ a, cs[j]? = some (.int .i64 a) := by
  obtain ⟨a, e, _⟩ := DataW.trod_int Tryd.underlying3 h
  rw [show Tryd.prog.cellsOf 3 = 1 by kernel_rfl] at e
  exact ⟨a, take1 e⟩
theorem f_bool {n j : Nat} {cs : List Value} {y : DataW H × List MemPlace} (h : DataW.trod enc Tryd.prog w 0 (fun _ => true) true n 4 ((cs.drop j).take (Tryd.prog.cellsOf 4)) = some y) : ∃ a, cs[j]? = some (.bool a) := by
  obtain ⟨a, e, _⟩ := DataW.trod_bool Tryd.underlying4 h
  rw [show Tryd.prog.cellsOf 4 = 1 by kernel_rfl] at e
  exact ⟨a, take1 e⟩
set_option maxRecDepth 100000 in
theorem open_cr {n : Nat} {cs : List Value} {x : DataW H × List MemPlace} (h : DataW.trod enc Tryd.prog w 0 (fun _ => true) true n 42 cs = some x) : ∃ c : Cr, ∀ j u, j < 5 → (crF c)[j]? = some u → cs[j]? = some u := by
  obtain ⟨xs, k, _, _, _, hl, hf⟩ := DataW.trod_struct Tryd.underlying42 h
  match xs, hl with
  | [y0, y1, y2, y3, y4], _ =>
    have g0 := hf 0 _ rfl
    have g1 := hf 1 _ rfl
    have g2 := hf 2 _ rfl
    have g3 := hf 3 _ rfl
    have g4 := hf 4 _ rfl
    obtain ⟨n0, e0⟩ := f_int (j := 0) (y := y0) g0
    obtain ⟨n1, e1⟩ := f_int (j := 1) (y := y1) g1
    obtain ⟨n2, e2⟩ := f_int (j := 2) (y := y2) g2
    obtain ⟨n3, e3⟩ := f_int (j := 3) (y := y3) g3
    obtain ⟨n4, e4⟩ := f_bool (j := 4) (y := y4) g4
    refine ⟨⟨n0, n1, n2, n3, n4⟩, fun j u hj hu => ?_⟩
    match j, hj with
    | 0, _ => simp [crF] at hu; subst hu; exact e0
    | 1, _ => simp [crF] at hu; subst hu; exact e1
    | 2, _ => simp [crF] at hu; subst hu; exact e2
    | 3, _ => simp [crF] at hu; subst hu; exact e3
    | 4, _ => simp [crF] at hu; subst hu; exact e4
set_option maxRecDepth 100000 in
theorem open_Dg {v : Value} {d : DataW H} {p : List MemPlace} {b0 : Nat} (hv : Value.okWide Tryd.prog w .any b0 31 v) (h : DataW.Trod enc Tryd.prog w 0 (fun _ => true) true 31 v d p) (hlt : ∀ x ∈ p, x.block < w.heap.size)
    {ts : List TypeId} {ds : List (DataW H)} (hsz : (DataW.weightsEach Tryd.prog ts ds).all (· ≤ reachBytes) = true) {j : Nat} (hj : ts[j]? = some 31) (hd : ds[j]? = some d) :
    ∃ g : Dg, IsDg w w.heap.size v g := by
  obtain ⟨v0, v1, y0, y1, n, rfl, rfl, rfl, t0, t1⟩ := open_agg2 Tryd.underlying31 (by kernel_rfl) (by kernel_rfl) hv h
  obtain ⟨l, e1, _, _⟩ := DataW.trod_int Tryd.underlying3 t1
  injection e1 with e1
  subst e1
  have hs := fun es sp (hp : y0.1 = .slice es sp) => sized_in hsz hj hd Tryd.underlying31 (i := 0) rfl (by rw [List.getElem?_cons_zero, hp]) Tryd.underlying29
  rcases open_slice Tryd.underlying29 t0 with ⟨hcs, hx⟩ | ⟨a, len, cap, m, k, D, Pl, hcs, hb, hl, hm, hmm, hx, hi⟩
  · injection hcs with hcs
    subst hcs
    exact ⟨⟨[], l⟩, none, 0, rfl, Nat.le_refl _, Rd.nil_⟩
  · injection hcs with hcs
    subst hcs
    have hk : Tryd.prog.cellsOf 42 = 5 := by kernel_rfl
    have hby : Tryd.prog.bytesOf 42 = 40 := by kernel_rfl
    have hs := hs _ _ (by rw [hx])
    rw [hby] at hs
    simp only [if_true] at hmm
    subst hmm
    simp only [List.length_map, List.length_range, reachBytes] at hs
    obtain ⟨F, hF⟩ := pick (m := m) (Q := fun i (c : Cr) => ∀ j u, j < 5 → (crF c)[j]? = some u → w.cell? (a.add (i * 5 + j)) = some u) (fun i him => by
      obtain ⟨cs', hc, ht'⟩ := hi i him
      rw [hk] at hc
      obtain ⟨c, hc'⟩ := open_cr ht'
      obtain ⟨_, hcl, hat⟩ := World.cells?_some hc
      refine ⟨c, fun j u hj hu => ?_⟩
      rw [← Go.Deep.add_add, hat j hj]
      exact hc' j u hj hu)
    have hlen : ((List.range len).map F).length = len := by simp
    refine ⟨⟨(List.range len).map F, l⟩, some a, m, by rw [hlen], by rw [hlen]; exact hl, ?_⟩
    refine ⟨len5 _, by show _ * 40 ≤ _; rw [hlen]; omega, fun h0 => ?_⟩
    rw [hlen] at h0
    obtain ⟨b, off, spot⟩ := a
    have hspot : spot = none := by simpa [Addr.add] using World.cell?_spot (hF 0 (by omega) 0 _ (by omega) rfl)
    subst hspot
    refine ⟨b, off, rfl, hlt (.cell b off) (List.mem_append_left _ (by rw [hx]; exact List.mem_append_left _ (MemPlace.mem_row.2 ⟨0, by rw [hk]; omega, by simp⟩))), fun i u hu => ?_⟩
    have hil : i < len * 5 := by
      have := (List.getElem?_eq_some_iff.1 hu).1
      rw [len5, hlen] at this
      exact this
    have hu' := hu
    rw [show i = (i / 5) * 5 + i % 5 by omega] at hu'
    rw [show (5 : Nat) = codCr.k from rfl, flat_get codCr.hf (by rw [hlen]; show i / 5 < len; omega) (by show i % 5 < 5; omega)] at hu'
    have := hF (i / 5) (by omega) (i % 5) u (by omega) (by simpa [codCr] using hu')
    rw [show (i / 5) * 5 + i % 5 = i by omega] at this
    rcases Nat.eq_zero_or_pos i with h1 | h1
    · subst h1; simpa [Addr.add] using this
    · simpa [Addr.add, show ¬ i = 0 by omega] using this
end
end Go.Proofs.YtakmjhkgilijiaaDoor
namespace Go.Proofs.YtakmjhkgilijiaaDoor
open Go.ChangeShapes Go.WideShapes Go.ChangeAt Go.RowKit
theorem RdA.of_sl {α : Type} {C : Cd α} {w : World} {B c : Nat} {A : Option Addr} {xs : List α} (hc : xs.length ≤ c) (hk : 0 < C.k) (h : Sl w B C.k C.u8 A xs.length (xs.flatMap C.f)) : RdA C (hp w) A c xs := by
  refine ⟨hc, h.2.1, fun h0 => ?_⟩
  obtain ⟨b, off, rfl, _, hat⟩ := h.2.2 h0
  refine ⟨rfl, ?_⟩
  have hlen : 0 < (xs.flatMap C.f).length := by rw [flat_len C.hf]; exact Nat.mul_pos h0 hk
  have h1 := hat 0 _ (List.getElem?_eq_getElem hlen)
  show ∃ cs T fz, w.heap[b]? = some (.cells cs T fz) ∧ ∀ j u, (xs.flatMap C.f)[j]? = some u → cs[off + j]? = some u
  unfold World.cell? at h1
  split at h1
  · rename_i cs T fz hb
    refine ⟨cs, T, fz, hb, fun j u hu => ?_⟩
    have := hat j u hu
    rw [cell_of_row w b _ cs T fz hb] at this
    exact this
  · cases h1
theorem IsDg.rd {w : World} {B : Nat} {v : Value} {d : Dg} (h : IsDg w B v d) : ∃ A c, v = .agg [.slice A d.crs.length c, .int .i64 d.loops].toArray ∧ RdA cdCr (hp w) A c d.crs := by
  obtain ⟨A, c, rfl, hc, h⟩ := h
  exact ⟨A, c, rfl, RdA.of_sl (C := cdCr) hc (by decide) h⟩
end Go.Proofs.YtakmjhkgilijiaaDoor
namespace Go.Proofs.YtakmjhkgilijiaaDoor
open Go.ChangeShapes Go.WideShapes Go.ChangeAt Go.RowKit
theorem law_lift_laid {H : Type} {enc : TypeId × Value → H} {C : Checked} {os : Os} {f : FuncId} {fn : Func} {s : ChangeSpec} {tb : TypeId} {Z : World → Prop} (hZ : ∀ w w' : World, w.heap = w'.heap → Z w → Z w')
    (own : ownKnob C.prog.godebug = none) (started : os.Started) (noInit : C.prog.inits.idxOf? f = none) (hfn : C.prog.funcs[f]? = some fn)
    (witness : ∃ (w : World) (tape : Tape) (i : Input), w.os = os ∧ (w.forCall tape i).Shaped C.prog ∧ i.vars = [] ∧ Input.okWide C.prog (w.forCall tape i) .any w.heap.size f i ∧
      ((s.pre enc C.prog fn [] false (w.forCall tape i).memory i.args ∧ Z (w.forCall tape i).memory) ∧ sizedMet enc C.prog fn (OpenSpec.ofChange s) false (w.forCall tape i).memory i.args) ∧ ({} : Assume).holds C.prog (lone (Frame.enter C.prog f i.args .normal) [] (w.forCall tape i)))
    (hvars : s.vars = []) (hl : laidOutB C.prog = true) (hps : (fn.params.toList.all fun t => C.prog.readableRec t && decide (t < C.prog.types.size)) = true)
    (hres : fn.resultTypes = #[tb]) (htb : C.prog.underlying tb = some .bool)
    (hspec : ∀ ds : List (DataW H), ds.length = fn.params.toList.length → s.fn H (ds ++ []) = { results := [.lit (.bool true)], args := ds })
    (hlaw : ∀ (W : World) (base : Nat) (args : Array Value) (ds : List (DataW H)) (p : List MemPlace),
      (∀ (j : Nat) t v, fn.params[j]? = some t → args[j]? = some v → Value.okWide C.prog W .any base t v) →
      DataW.TrodAll enc C.prog W 0 (fun _ => true) true fn.params.toList args.toList ds p → W.noneFrozen p → (∀ x ∈ p, x.block < W.heap.size) →
      (DataW.weightsEach C.prog fn.params.toList ds).all (· ≤ reachBytes) = true →
      Calls C.prog f args W fun e W' => e = .returned (.bool true) ∧ Below W.heap.size W W') :
    ReturnsInHanded {} C os f .any (fun w args => (s.pre enc C.prog fn [] false w args ∧ Z w) ∧ sizedMet enc C.prog fn (OpenSpec.ofChange s) false w args) (s.post enc C.prog fn false true false false) := by
  refine returnsInHanded_of_change_and (conds := []) (X := fun w _ => Z w) (fun w w' _ h hx => hZ w w' h hx) own started noInit hfn witness ?_
  intro W base args ds gs before hval hW _ hsz _ _
  have hW' := hW
  obtain ⟨p, q, hA, hV, rfl, hfz, _⟩ := hW
  rw [hvars] at hV
  have hgs : gs = [] ∧ q = [] := by cases gs with
    | nil => exact ⟨rfl, hV⟩
    | cons g gs => exact hV.elim
  obtain ⟨rfl, rfl⟩ := hgs
  have hvt : s.plain.varTypes C.prog = [] := by simp [DataSpec.varTypes, ChangeSpec.plain, hvars]
  rw [hvt, List.append_nil, List.append_nil] at hsz
  have hlt : ∀ x ∈ p, x.block < W.heap.size := fun x hx => hW'.lt x (by simp [hx])
  refine (hlaw W base args ds p hval hA (fun b off hm => hfz b off (by simp [hm])) hlt hsz).mono ?_
  rintro e W' ⟨rfl, hb⟩
  have hps' : ∀ t ∈ fn.params.toList, C.prog.readableRec t = true ∧ t < C.prog.types.size := by
    intro t ht
    have := List.all_eq_true.1 hps t ht
    simpa using this
  refine ⟨_, rfl, ds, [], _, [], p, [], hW', ?_, ?_, ?_, hb.frame _, fun h => by cases h⟩
  · rw [hspec ds (trodAll_length _ _ _ _ hA), hres]
    exact trodAll_mk1 (shut_bool htb true)
  · rw [hspec ds (trodAll_length _ _ _ _ hA)]
    exact trodAll_below hl hb _ _ _ _ hps' hA hlt
  · rw [hspec ds (trodAll_length _ _ _ _ hA), hvars]
    rfl
end Go.Proofs.YtakmjhkgilijiaaDoor
namespace Go.Proofs.YtakmjhkgilijiaaDoor
open Go.ChangeShapes Go.WideShapes Go.ChangeAt Go.RowKit
theorem lawCodeShows (v0 : Value) (x0 : Dg) (W : World) (h0 : IsDg W W.heap.size v0 x0) :
    Calls Tryd.prog 4 #[v0] W fun e W' => e = .returned (.bool true) ∧ Below W.heap.size W W' := by
  obtain ⟨A0, c0, rfl, r0⟩ := h0.rd
  exact law_of_ct (CodeShows_t x0 r0 (SH.start W))
def laidS : List (String × DataW Unit) := [("math/bits.deBruijn32tab", Rows.laid_math_bits_deBruijn32tab), ("math/bits.deBruijn64tab", Rows.laid_math_bits_deBruijn64tab), ("internal/strconv.uint64pow10", Rows.laid_internal_strconv_uint64pow10)]
theorem door_met (os : Os) (args : Array Value) : laidMetH Tryd.prog laidS ((World.doorLaid Tryd.prog 400 os).forCall (fun _ _ => 0) ⟨#[], args, []⟩).memory :=
  laidMetH_of_parts3 (fuel := 8) (laidMet_of_run' 8 (by kernel_rfl) (by kernel_rfl)) (by kernel_rfl) (by kernel_rfl)
set_option maxRecDepth 100000 in
theorem codeShows_lifted (os : Os) (started : os.Started) (H : Type) (enc : TypeId × Value → H) :
    ReturnsInHanded {} Tryd.checked os 4 .any (fun w args => (Rows.codeShowsSpec.pre enc Tryd.prog Tryd.f4 [] false w args ∧ laidMetH Tryd.prog laidS w) ∧ sizedMet enc Tryd.prog Tryd.f4 (OpenSpec.ofChange Rows.codeShowsSpec) false w args)
      (Rows.codeShowsSpec.post enc Tryd.prog Tryd.f4 false true false false) := by
  refine law_lift_laid (C := Tryd.checked) (tb := 4) (Z := laidMetH Tryd.prog laidS) (fun _ _ hh h => h.of_heap hh) (by kernel_rfl) started (by kernel_rfl) Tryd.func4
    (ChangeSpec.witness_shaped (enc := enc) (C := Tryd.checked) (os := os) (X := fun w _ => laidMetH Tryd.prog laidS w) false (World.doorLaid Tryd.prog 400 os) #[.agg #[.slice none 0 0, .int .i64 0]] 8 rfl (World.shaped_of_RefB (by kernel_rfl) (by kernel_rfl)) (by kernel_rfl) (by kernel_rfl) (by kernel_rfl) (door_met os _))
    rfl (by kernel_rfl) (by kernel_rfl) rfl Tryd.underlying4 ?_ ?_
  · intro ds hds
    match ds, hds with
    | [d0], _ => rfl
  · intro W base args ds p hval hA _ hlt hsz
    rw [Tryd.params4] at hA hval hsz
    obtain ⟨v0, vs0, d0, ds0, p0, q0, hargs, rfl, rfl, h0, r0⟩ := trodAll_cons hA
    obtain ⟨rfl, rfl, rfl⟩ := trodAll_nil r0
    obtain rfl : args = #[v0] := by cases args; simp_all
    obtain ⟨a0, i0⟩ := open_Dg (hval 0 31 v0 rfl rfl) h0 (fun x hx => hlt x (by simp [hx])) hsz (j := 0) rfl rfl
    exact lawCodeShows v0 a0 W i0
theorem codeShows_row : Rows.CodeShowsSaid :=
  OpenClaim.holds_of_wide 4 Tryd.f4 rfl rfl rfl rfl rfl rfl rfl ⟨rfl, rfl, rfl, rfl, rfl⟩ rfl rfl rfl rfl rfl (by kernel_rfl) Tryd.func4 (by kernel_rfl)
    (of_decide_eq_true (by kernel_rfl)) (by unfold Func.isWrapper; first | (rw [if_pos (by decide +kernel)]; kernel_rfl) | (rw [if_neg (by decide +kernel)]; exact ⟨rfl, rfl⟩))
    (fun os started H enc _ => codeShows_lifted os started H enc)
/-- THE TIED CARD. -/
theorem codeShows_holds : Rows.CodeShowsCardSaid :=
  Claim7.holds_tied_plain_at .later [] [.data, .data, .data] true (true, "c2dd8e468c8eb6e7720054c261c52a4d13348997c6ec10c62e6c20aabe69f9de") false
    codeShows_row (fun _ h => by cases h) (by kernel_rfl) (fun _ h => by cases h) codeShows_row_tie rfl ⟨rfl, rfl⟩ (by kernel_rfl) rfl
    (fun f fn hf hfn => by
      obtain rfl : f = 4 := Option.some.inj ((show Tryd.prog.funcNamed "knotwork/knotworklaw.CodeShows" = some 4 by kernel_rfl).symm.trans hf) |>.symm
      obtain rfl : fn = Tryd.f4 := (Option.some.inj (Tryd.func4.symm.trans hfn)).symm
      exact ⟨by kernel_rfl, fun j t ht => by
        rw [Tryd.params4] at ht
        have hm : t ∈ [31] := by simpa using Array.mem_of_getElem? ht
        have hall : ([31].all fun u => !Tryd.prog.wantsStandIn u) = true := by kernel_rfl
        exact (show Tryd.prog.wantsStandIn t = false by simpa using List.all_eq_true.1 hall t hm)⟩)
    (by kernel_rfl)
#print axioms codeShows_holds
end Go.Proofs.YtakmjhkgilijiaaDoor
