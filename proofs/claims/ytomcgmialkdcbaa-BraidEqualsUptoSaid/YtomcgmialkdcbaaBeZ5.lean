/- Part 5 of the proof of the law BraidEquals: the walks through its functions and the plain laws that they need. -/
import Derived.Test.YtomcgmialkdcbaaBeZ4
set_option linter.unusedSimpArgs false
set_option linter.unusedVariables false
namespace Go.Proofs.Ytomcgmialkdcbaa
open Go.ChangeShapes Go.WideShapes Go.ChangeAt Go.RowKit
theorem delL_len (n : Nat) : (delL n).length = n + 1 := mkP_len _ _
section
variable {α : Type} {C : Cd α} {w : World} {M : Hp} {X : Fr} {H : List Rs} {i k : Nat} {vs : List SlV} {xss : List (List α)}
/-- Two neighbours of a table are taken out and come back. -/
theorem SH.tabtwo (S : SH w M X H) (k : Nat) (hi : nth H i = some (Rs.tab C vs xss)) (hk : k + 1 < xss.length) : SH w M X (Rs.bun [Rs.row C (ga vs k).v (ga xss k), Rs.row C (ga vs (k + 1)).v (ga xss (k + 1))] :: H.set i (Rs.tab C ((vs.set k ⟨none, 0, 0⟩).set (k + 1) ⟨none, 0, 0⟩) ((xss.set k []).set (k + 1) []))) := by
 have S1 := S.tabtake k hi (by omega) rfl
 have e1 : nth (Rs.row C (ga vs k).v (ga xss k) :: H.set i (Rs.tab C (vs.set k ⟨none, 0, 0⟩) (xss.set k []))) (i + 1) = some (Rs.tab C (vs.set k ⟨none, 0, 0⟩) (xss.set k [])) := by
  rw [nth_eq] at hi ⊢
  rw [List.getElem?_cons_succ, List.getElem?_set_self (List.getElem?_eq_some_iff.1 hi).1]
 have S2 := S1.tabtake (k + 1) e1 (by rw [List.length_set]; omega) rfl
 rw [ga_set_ne _ k (k + 1) _ (by omega), ga_set_ne _ k (k + 1) _ (by omega), List.set_cons_succ, List.set_set] at S2
 have S3 := S2.perm (List.Perm.swap ..)
 exact SH.bunC (A := [_, _]) S3
theorem SH.tabtwoback {p q : List α} {t : Rs} (S : SH w M X (Rs.bun [Rs.row C (ga vs k).v p, Rs.row C (ga vs (k + 1)).v q] :: H.set i (Rs.tab C ((vs.set k ⟨none, 0, 0⟩).set (k + 1) ⟨none, 0, 0⟩) ((xss.set k []).set (k + 1) [])))) (hi : nth H i = some t) (hk : k + 1 < xss.length) (hv : vs.length = xss.length) (hp : (ga vs k).n = p.length) (hq : (ga vs (k + 1)).n = q.length) : SH w M X (H.set i (Rs.tab C vs ((xss.set k p).set (k + 1) q))) := by
 have S1 : SH w M X (Rs.row C (ga vs k).v p :: Rs.row C (ga vs (k + 1)).v q :: H.set i _) := SH.unbunC S
 have v1 : (ga vs k).v = .slice (ga vs k).A p.length (ga vs k).c := by unfold SlV.v; rw [hp]
 have v2 : (ga vs (k + 1)).v = .slice (ga vs (k + 1)).A q.length (ga vs (k + 1)).c := by unfold SlV.v; rw [hq]
 have s1 : (⟨(ga vs k).A, p.length, (ga vs k).c⟩ : SlV) = ga vs k := by rw [← hp]
 have s2 : (⟨(ga vs (k + 1)).A, q.length, (ga vs (k + 1)).c⟩ : SlV) = ga vs (k + 1) := by rw [← hq]
 rw [v1, v2] at S1
 have hil : i < H.length := by rw [nth_eq] at hi; exact (List.getElem?_eq_some_iff.1 hi).1
 have e1 : ∀ (a b t : Rs), nth (a :: b :: H.set i t) (i + 2) = some t := fun a b t => by rw [nth_eq]; simp [List.getElem?_set_self hil]
 have S2 := S1.tabput k (q := 0) (e1 _ _ _) rfl (by omega) (by simp; omega) rfl
 simp only [List.set_cons_succ, List.set_set, List.set_cons_zero] at S2
 have S3 := S2.tabput (k + 1) (q := 1) (e1 _ _ _) rfl (by omega) (by simp; omega) rfl
 simp only [List.set_cons_succ, List.set_set, List.set_cons_zero, s1, s2] at S3
 have hb : ∀ {β : Type} [Inhabited β] (xs : List β) (h x y : β), (((xs.set k h).set (k + 1) h).set k x).set (k + 1) y = (xs.set k x).set (k + 1) y := fun xs h x y => by
  rw [List.set_comm (i := k + 1) (j := k) _ _ (by omega), List.set_set, List.set_set]
 rw [hb, hb, set_ga_self, set_ga_self] at S3
 exact (S3.perm (List.Perm.swap ..)).suf (N := [_, _])
end
theorem shA_len (n : Nat) (p q : List Int) : (shA n p q).length = p.length := by unfold shA; split; rfl; exact thenL_len _ _
theorem shB_len (n : Nat) (p q : List Int) : (shB n p q).length = q.length := by unfold shB; split; rfl; exact swL_len _ _
structure Nf (n : Nat) (w : List Int) (z : Int) (l : List (List Int)) : Prop where
 nf : NfI n w z l
 stb : Stb n l
 id : ∀ p ∈ l, p ≠ idL n
 del : 0 < l.length → ga l 0 ≠ delL n
 z : -20 ≤ z ∧ z ≤ 20
 len : l.length ≤ 20
def NormE (n : Nat) (w : List Int) (u : Value) (M : Hp) : Prop := ∃ z A c vs l, u = tup [.int .i64 z, .slice A vs.length c] ∧ RdA (cdV 38) M A c vs ∧ Rd2 cdInt M vs l ∧ Nf n w z l
theorem NfI.ga_ {n : Nat} {w : List Int} {z : Int} {l : List (List Int)} (h : NfI n w z l) (k : Nat) (hk : k < l.length) : PL n (ga l k) := h.pl _ (ga_mem hk)
theorem NfI.rooms {n : Nat} {w : List Int} {z : Int} {l : List (List Int)} (h : NfI n w z l) (hn : n ≤ 6) : ∀ i, i < l.length → (ga l i).length * 8 ≤ 140737488355328 := fun i hi => by
 have := (h.ga_ i hi).len; omega
/-- The first k have been seen from the other side. -/
def flI (n : Nat) (l m : List (List Int)) (k : Nat) : Prop := m.length = l.length ∧ ∀ i, i < l.length → ga m i = if i < k then flipL n (ga l i) else ga l i
theorem flI.rooms {n : Nat} {w : List Int} {z : Int} {l m : List (List Int)} {k : Nat} (h : flI n l m k) (h2 : NfI n w z l) (hn : n ≤ 6) : ∀ i, i < m.length → (ga m i).length * 8 ≤ 140737488355328 := fun i hi => by
 have hl := (h2.ga_ i (by rw [← h.1]; exact hi)).len
 rw [h.2 i (by rw [← h.1]; exact hi)]
 split
 ·rw [show (flipL n (ga l i)).length = n + 1 from mkP_len _ _]; omega
 ·omega
theorem flI.zero (n : Nat) (l : List (List Int)) : flI n l l 0 := ⟨rfl, fun i _ => by rw [if_neg (by omega)]⟩
theorem flI.at_ {n : Nat} {l m : List (List Int)} {k : Nat} (h : flI n l m k) (hk : k < l.length) : ga m k = ga l k := by rw [h.2 k hk, if_neg (by omega)]
theorem flI.step {n : Nat} {l m : List (List Int)} {k : Nat} (h : flI n l m k) (hk : k < l.length) : flI n l (m.set k (flipL n (ga m k))) (k + 1) := ⟨by rw [List.length_set]; exact h.1, fun i hi => by
 rw [ga_set _ _ _ _ (by rw [h.1]; exact hk)]
 by_cases e : k = i
 ·subst e; rw [if_pos rfl, if_pos (by omega), h.at_ hk]
 ·rw [if_neg e, h.2 i hi]
  by_cases c : i < k
  ·rw [if_pos c, if_pos (by omega)]
  ·rw [if_neg c, if_neg (by omega)]⟩
theorem flI.done {n : Nat} {l m : List (List Int)} {k : Nat} (h : flI n l m k) (hk : l.length ≤ k) : m = l.map (flipL n) := ga_ext (by rw [List.length_map]; exact h.1) fun i hi => by
 have hi2 : i < l.length := by rw [← h.1]; exact hi
 rw [h.2 i hi2, if_pos (by omega), ga_map _ _ _ hi2]
/-- How far a round of shifts has come. -/
def prg (n P : Nat) (b : Bool) (l : List (List Int)) (k : Nat) : Prop := (b = true ∧ phi l < P) ∨ (b = false ∧ phi l = P ∧ ∀ i, i < k → LW n (ga l i) (ga l (i + 1)))
def msr (b : Bool) (l : List (List Int)) : Nat := 2 * phi l + b.toNat
theorem prg.zero (n : Nat) (l : List (List Int)) : prg n (phi l) false l 0 := .inr ⟨rfl, rfl, fun i hi => by omega⟩
theorem prg.step {n P k : Nat} {b : Bool} {l : List (List Int)} (h : prg n P b l k) (hl : LW n (ga l k) (ga l (k + 1))) : prg n P b l (k + 1) := by
 rcases h with h | ⟨h1, h2, h3⟩
 ·exact .inl h
 ·exact .inr ⟨h1, h2, fun i hi => by
   by_cases e : i = k
   ·subst e; exact hl
   ·exact h3 i (by omega)⟩
theorem prg.shift {n P k : Nat} {b : Bool} {l l' : List (List Int)} (h : prg n P b l k) (hl : phi l' < phi l) : prg n P true l' k := .inl ⟨rfl, by rcases h with ⟨_, h⟩ | ⟨_, h, _⟩ <;> omega⟩
theorem prg.msr_ {n k : Nat} {b b0 : Bool} {l l0 : List (List Int)} (h : prg n (phi l0) b l k) (hb : b0 = true) : msr b l < msr b0 l0 := by
 subst hb
 unfold msr
 rcases h with ⟨rfl, h⟩ | ⟨rfl, h, _⟩
 ·show 2 * phi l + 1 < 2 * phi l0 + 1; omega
 ·show 2 * phi l + 0 < 2 * phi l0 + 1; omega
theorem prg.stb {n P k : Nat} {b : Bool} {l : List (List Int)} (h : prg n P b l k) (hk : l.length ≤ k + 1) : b = false → Stb n l := fun hb => by
 rcases h with ⟨h, _⟩ | ⟨_, _, h⟩
 ·rw [hb] at h; cases h
 ·exact fun i hi => h i (by omega)
theorem sh_lt {n : Nat} {p q : List Int} (hp : PL n p) (h : shI n p q ≠ 0) : 1 ≤ shI n p q ∧ shI n p q < n ∧ ga q (shI n p q + 1) < ga q (shI n p q) ∧ plL p (shI n p q : Int) < plL p ((shI n p q : Int) + 1) := by
 obtain ⟨h1, h2, h3, h4⟩ := shI_spec h
 have := hp.pl_ne h1 h2
 exact ⟨h1, h2, h3, by omega⟩
theorem sh_lw {n : Nat} {p q : List Int} (h : shI n p q = 0) : LW n p q := fun i i1 i2 hi => by
 have := shI_none h i i1 i2
 unfold shC at this
 by_cases c : plL p ((i : Int) + 1) < plL p (i : Int)
 ·exact c
 ·exact absurd ⟨hi, c⟩ this
theorem sh_step {n : Nat} {w : List Int} {z : Int} {l : List (List Int)} {k : Nat} (hn : n ≤ 6) (h : NfI n w z l) (hk : k + 1 < l.length) (hs : shI n (ga l k) (ga l (k + 1)) ≠ 0) : NfI n w z ((l.set k (shA n (ga l k) (ga l (k + 1)))).set (k + 1) (shB n (ga l k) (ga l (k + 1)))) ∧ phi ((l.set k (shA n (ga l k) (ga l (k + 1)))).set (k + 1) (shB n (ga l k) (ga l (k + 1)))) < phi l := by
 obtain ⟨h1, h2, h3, h4⟩ := sh_lt (h.ga_ k (by omega)) hs
 obtain ⟨ea, eb⟩ := sh_at rfl h1
 rw [ea, eb]
 exact ⟨h.shift hk h1 h2 h3 h4, phi_shift hn h.pl hk h1 h2 h3⟩
theorem sh_same {n : Nat} {l : List (List Int)} {k : Nat} (hs : ¬ shI n (ga l k) (ga l (k + 1)) ≠ 0) : (l.set k (shA n (ga l k) (ga l (k + 1)))).set (k + 1) (shB n (ga l k) (ga l (k + 1))) = l := by
 obtain ⟨ea, eb⟩ := sh_no (n := n) (p := ga l k) (q := ga l (k + 1)) (by omega)
 rw [ea, eb, set_ga_self, set_ga_self]
theorem w_pos {w : List Int} {j a : Nat} (hj : j < w.length) (h : max (ga w j) (-(ga w j)) = (a : Int)) (h0 : 0 < ga w j) : w.take j ++ [(a : Int)] = w.take (j + 1) := by rw [take_ga _ _ hj, show ga w j = (a : Int) by omega]
theorem w_neg {w : List Int} {j a : Nat} (hj : j < w.length) (h : max (ga w j) (-(ga w j)) = (a : Int)) (h0 : ¬ 0 < ga w j) : w.take j ++ [-(a : Int)] = w.take (j + 1) := by rw [take_ga _ _ hj, show ga w j = -(a : Int) by omega]
theorem nf_filt {n : Nat} {w : List Int} {z : Int} {l : List (List Int)} (h : NfI n w z l) (hs : Stb n l) : NfI n w z (l.filter fun q => !decide (q = idL n)) ∧ Stb n (l.filter fun q => !decide (q = idL n)) ∧ ∀ p ∈ (l.filter fun q => !decide (q = idL n)), p ≠ idL n := by
 have e : (l.filter fun q => !decide (q = idL n)) = l.filter fun p => decide (p ≠ idL n) := List.filter_congr fun x _ => by simp
 rw [e]
 exact ⟨h.filt, hs.filt h.pl, fun p hp => by simpa using (List.mem_filter.1 hp).2⟩
theorem nf_del {n : Nat} {w : List Int} {z : Int} {l : List (List Int)} (h : NfI n w z l) (hs : Stb n l) (h0 : 0 < l.length) (hd : ga l 0 = delL n) : NfI n w (z + 1) (l.drop 1) ∧ Stb n (l.drop 1) ∧ (l.drop 1).length + 1 = l.length := by
 match l, h0 with
 | p :: l, _ =>
  have hd : p = delL n := hd
  subst hd
  exact ⟨h.del, hs.tail, by simp⟩
noncomputable def Normal__n0 : Code := Try.f12.body.getD .skip
noncomputable def Normal__n1 : Code := cL Normal__n0
noncomputable def Normal__n2 : Code := cR Normal__n0
noncomputable def Normal__n3 : Code := cL Normal__n2
noncomputable def Normal__n4 : Code := cR Normal__n2
noncomputable def Normal__n5 : Code := cL Normal__n4
noncomputable def Normal__n6 : Code := cR Normal__n4
noncomputable def Normal__n7 : Code := cL Normal__n6
noncomputable def Normal__n8 : Code := cR Normal__n6
noncomputable def Normal__n9 : Code := cL Normal__n7
noncomputable def Normal__n10 : Code := cR Normal__n7
noncomputable def Normal__n11 : Code := cL Normal__n10
noncomputable def Normal__n12 : Code := cL Normal__n11
noncomputable def Normal__n13 : Code := cL Normal__n12
noncomputable def Normal__n14 : Code := cR Normal__n12
noncomputable def Normal__n15 : Code := cL Normal__n14
noncomputable def Normal__n16 : Code := cR Normal__n14
noncomputable def Normal__n17 : Code := cL Normal__n15
noncomputable def Normal__n18 : Code := cR Normal__n15
noncomputable def Normal__n19 : Code := cL Normal__n16
noncomputable def Normal__n20 : Code := cR Normal__n16
noncomputable def Normal__n21 : Code := cL Normal__n19
noncomputable def Normal__n22 : Code := cL Normal__n21
noncomputable def Normal__n23 : Code := cR Normal__n21
noncomputable def Normal__n24 : Code := cL Normal__n23
noncomputable def Normal__n25 : Code := cR Normal__n23
noncomputable def Normal__n26 : Code := cL Normal__n25
noncomputable def Normal__n27 : Code := cR Normal__n25
noncomputable def Normal__n28 : Code := cL Normal__n26
noncomputable def Normal__n29 : Code := cR Normal__n26
noncomputable def Normal__n30 : Code := cL Normal__n29
noncomputable def Normal__n31 : Code := cR Normal__n29
noncomputable def Normal__n32 : Code := cL Normal__n30
noncomputable def Normal__n33 : Code := cR Normal__n30
noncomputable def Normal__n34 : Code := cL Normal__n33
noncomputable def Normal__n35 : Code := cR Normal__n33
noncomputable def Normal__n36 : Code := cL Normal__n35
noncomputable def Normal__n37 : Code := cR Normal__n35
noncomputable def Normal__n38 : Code := cL Normal__n27
noncomputable def Normal__n39 : Code := cR Normal__n27
noncomputable def Normal__n40 : Code := cL Normal__n38
noncomputable def Normal__n41 : Code := cR Normal__n38
noncomputable def Normal__n42 : Code := cL Normal__n41
noncomputable def Normal__n43 : Code := cL Normal__n42
noncomputable def Normal__n44 : Code := cL Normal__n43
noncomputable def Normal__n45 : Code := cR Normal__n43
noncomputable def Normal__n46 : Code := cL Normal__n45
noncomputable def Normal__n47 : Code := cR Normal__n45
noncomputable def Normal__n48 : Code := cL Normal__n46
noncomputable def Normal__n49 : Code := cR Normal__n46
noncomputable def Normal__n50 : Code := cL Normal__n47
noncomputable def Normal__n51 : Code := cR Normal__n47
noncomputable def Normal__n52 : Code := cL Normal__n50
noncomputable def Normal__n53 : Code := cL Normal__n52
noncomputable def Normal__n54 : Code := cR Normal__n52
noncomputable def Normal__n55 : Code := cL Normal__n39
noncomputable def Normal__n56 : Code := cR Normal__n39
noncomputable def Normal__n57 : Code := cL Normal__n56
noncomputable def Normal__n58 : Code := cR Normal__n56
noncomputable def Normal__n59 : Code := cL Normal__n58
noncomputable def Normal__n60 : Code := cR Normal__n58
noncomputable def Normal__n61 : Code := cL Normal__n8
noncomputable def Normal__n62 : Code := cR Normal__n8
noncomputable def Normal__n63 : Code := cL Normal__n61
noncomputable def Normal__n64 : Code := cR Normal__n61
noncomputable def Normal__n65 : Code := cL Normal__n64
noncomputable def Normal__n66 : Code := cL Normal__n65
noncomputable def Normal__n67 : Code := cL Normal__n66
noncomputable def Normal__n68 : Code := cR Normal__n66
noncomputable def Normal__n69 : Code := cL Normal__n67
noncomputable def Normal__n70 : Code := cR Normal__n67
noncomputable def Normal__n71 : Code := cL Normal__n70
noncomputable def Normal__n72 : Code := cR Normal__n70
noncomputable def Normal__n73 : Code := cL Normal__n68
noncomputable def Normal__n74 : Code := cL Normal__n73
noncomputable def Normal__n75 : Code := cR Normal__n73
noncomputable def Normal__n76 : Code := cL Normal__n75
noncomputable def Normal__n77 : Code := cR Normal__n75
noncomputable def Normal__n78 : Code := cL Normal__n77
noncomputable def Normal__n79 : Code := cL Normal__n78
noncomputable def Normal__n80 : Code := cL Normal__n79
noncomputable def Normal__n81 : Code := cR Normal__n79
noncomputable def Normal__n82 : Code := cL Normal__n81
noncomputable def Normal__n83 : Code := cR Normal__n81
noncomputable def Normal__n84 : Code := cL Normal__n82
noncomputable def Normal__n85 : Code := cR Normal__n82
noncomputable def Normal__n86 : Code := cL Normal__n83
noncomputable def Normal__n87 : Code := cR Normal__n83
noncomputable def Normal__n88 : Code := cL Normal__n86
noncomputable def Normal__n89 : Code := cL Normal__n88
noncomputable def Normal__n90 : Code := cR Normal__n88
noncomputable def Normal__n91 : Code := cL Normal__n90
noncomputable def Normal__n92 : Code := cL Normal__n91
noncomputable def Normal__n93 : Code := cL Normal__n92
noncomputable def Normal__n94 : Code := cR Normal__n92
noncomputable def Normal__n95 : Code := cL Normal__n93
noncomputable def Normal__n96 : Code := cR Normal__n93
noncomputable def Normal__n97 : Code := cL Normal__n96
noncomputable def Normal__n98 : Code := cR Normal__n96
noncomputable def Normal__n99 : Code := cL Normal__n94
noncomputable def Normal__n100 : Code := cL Normal__n62
noncomputable def Normal__n101 : Code := cR Normal__n62
noncomputable def Normal__n102 : Code := cL Normal__n101
noncomputable def Normal__n103 : Code := cR Normal__n101
noncomputable def Normal__n104 : Code := cL Normal__n102
noncomputable def Normal__n105 : Code := cL Normal__n104
noncomputable def Normal__n106 : Code := cL Normal__n105
noncomputable def Normal__n107 : Code := cR Normal__n105
noncomputable def Normal__n108 : Code := cL Normal__n106
noncomputable def Normal__n109 : Code := cR Normal__n106
noncomputable def Normal__n110 : Code := cL Normal__n109
noncomputable def Normal__n111 : Code := cR Normal__n109
noncomputable def Normal__n112 : Code := cL Normal__n107
noncomputable def Normal__n113 : Code := cL Normal__n112
noncomputable def Normal__n114 : Code := cR Normal__n112
noncomputable def Normal__n115 : Code := cL Normal__n103
noncomputable def Normal__n116 : Code := cR Normal__n103
set_option maxRecDepth 10000 in
theorem normal_t {w : World} {M : Hp} {X : Fr} (n : Nat) (wd : List Int) {wdA : Option Addr} {wdc : Nat} (hwd : RdA cdInt (M.un X.h) wdA wdc wd) (hn2 : 2 ≤ n) (hn : n ≤ 6) (hwl : wd.length ≤ 20) (hwb : ∀ i, i < wd.length → 1 ≤ max (ga wd i) (-(ga wd i)) ∧ max (ga wd i) (-(ga wd i)) < (n : Int)) (S : SH w M X []) : Ct Try.prog 12 [.int .i64 (n : Int), .slice wdA wd.length wdc] w M X (NormE n wd) := by
 unfold Ct
 have rmhwd : wd.length * 8 ≤ 140737488355328 := hwd.room
 have hil := idL_len n
 have hdll := delL_len n
 refine calls_in (b := Normal__n0) Try.func12 rfl Try.ntmps12 rfl (fun C hC => (ws_sub [(0, _), (1, _)] ⟨rfl, rfl, trivial⟩ (ws_seqN Normal__n1 Normal__n2 rfl rfl rfl (ws_region rfl (wlo 0 1 rfl rfl rfl (wo_box (l := [_]) rfl rfl rfl rfl rfl S ?_))))))
 intro gb1 w1 S1; clear S
 refine wla 1 2 rfl rfl rfl rfl rfl rfl rfl (wla 2 3 rfl rfl rfl rfl rfl rfl rfl (wl_end rfl (nmk [1, 2] rfl (nm_thn ?_))))
 refine ws_seqN Normal__n3 Normal__n4 rfl rfl rfl (ws_region rfl (wla 0 1 rfl rfl rfl rfl rfl rfl rfl (wl_end rfl (nm_thn ?_))))
 refine ws_seqN Normal__n5 Normal__n6 rfl rfl rfl (ws_region rfl (wla 0 1 rfl rfl rfl rfl rfl rfl rfl (wl_end rfl (nm_thn ?_))))
 refine ws_seqN Normal__n7 Normal__n8 rfl rfl rfl (ws_seqN Normal__n9 Normal__n10 rfl rfl rfl (ws_region rfl (wlm 0 1 rfl rfl rfl rfl rfl rfl rfl (wlo 1 2 rfl rfl rfl (wo_run rfl rfl (run_len rfl rfl rfl rfl rfl rfl Try.underlying22) ?_)))))
 refine wlm 2 3 rfl rfl rfl rfl rfl rfl rfl (wl_end rfl (nmk [2, 6, 7, 16, 17, 18] rfl (nm_thn (ws_blockN Normal__n11 0 rfl rfl rfl ?_))))
 have S2 := S1.newtab0 cdInt; clear S1
 have S3 := S2.nilrow (cdV 38); clear S2
 refine ws_loopE (fun mx_ ax_ wx_ => ∃ (j : Nat) (z : Int) (vs0 : List SlV) (xs0 : List (List Int)) (vrl : Value), mx_ = wd.length - j ∧ Env 101 [(2, .pointer (some ⟨gb1, 0, none⟩)), (6, .int .i64 z), (7, vrl), (16, .slice wdA wd.length wdc), (17, .int .i64 (wd.length : Int)), (18, .int .i64 (j : Int))] ax_ ∧ SH wx_ M X [Rs.row (cdV 38) vrl vs0, Rs.tab cdInt vs0 xs0, Rs.box gb1 3 [.int .i64 (n : Int)]] ∧ j ≤ wd.length ∧ NfI n (wd.take j) z xs0 ∧ xs0.length = j ∧ (-(j : Int) ≤ z ∧ z ≤ 0)) rfl ?_ ?_
 ·intro ax_ hax_
  refine ⟨_, ⟨0, 0, [], [], _, rfl, hax_.sub ⟨rfl, rfl, rfl, rfl, rfl, rfl, trivial⟩, S3.pick [0, 1, 2] [_, _, _] (by decide) ⟨rfl, rfl, rfl, trivial⟩, ?hq1f0, ?hq1f1, ?hq1f2, ?hq1f3⟩⟩
  case hq1f0 => omega
  case hq1f1 => exact NfI.nil_
  case hq1f2 => rfl
  case hq1f3 => omega
 ·rintro m1 a1 w2 ⟨j, z, vs0, xs0, vrl, rfl, he1, S4, hj, hnf, hxl, hz⟩
  clear S3
  refine ws_in he1 (c := Normal__n12) rfl ?_
  clear he1 a1
  have hvl : vs0.length = xs0.length := S4.tablen (i := 1) rfl
  refine ws_seqN Normal__n13 Normal__n14 rfl rfl rfl (ws_region rfl (wlo 0 1 rfl rfl rfl (wo_run rfl rfl (run_lss rfl rfl rfl) (wl_end rfl (nm_thn ?_)))))
  refine ws_seqN Normal__n15 Normal__n16 rfl rfl rfl ?_
  refine ws_condN Normal__n17 Normal__n18 rfl rfl rfl rfl (fun hb19 => ?_) (fun hb19 => ?_)
  ·replace hb19 := of_decide_eq_true hb19
   refine ws_skip rfl (nmk [2, 6, 7, 16, 17, 18] rfl (nm_thn (ws_seqN Normal__n19 Normal__n20 rfl rfl rfl (ws_blockN Normal__n21 1 rfl rfl rfl ?_))))
   refine ws_seqN Normal__n22 Normal__n23 rfl rfl rfl (ws_region rfl (wlo 0 1 rfl rfl rfl (wo_run rfl rfl (run_indexM (C := cdInt) j rfl rfl rfl sl22 (by first | rfl | omega) hwd (by first | omega | (simp only [lens]; omega))) ?_)))
   refine wlo 1 2 rfl rfl rfl (wo_run rfl rfl (run_load1 rfl rfl Try.underlying3 rfl (hwd.cell S4.um (i := j) (by first | omega | (simp only [lens]; omega)) 0 rfl rfl)) ?_)
   refine wla 2 3 rfl rfl rfl rfl rfl rfl rfl (wl_end rfl (nmk [2, 6, 7, 16, 17, 18, 9] rfl (nm_thn (ws_seqN Normal__n24 Normal__n25 rfl rfl rfl ?_))))
   have hwj := hwb j (by omega)
   refine ws_region rfl (wlm 0 1 rfl rfl rfl rfl rfl rfl rfl (wlm 1 2 rfl rfl rfl rfl rfl rfl rfl (wlo 2 3 rfl rfl rfl (wo_run rfl rfl (run_neg rfl rfl (by first | omega | (simp only [lens]; omega))) ?_))))
   refine wlo 3 4 rfl rfl rfl (wo_run rfl rfl (run_max rfl rfl rfl rfl rfl) (wla 4 5 rfl rfl rfl rfl rfl rfl rfl (wl_end rfl (nmk [2, 6, 7, 16, 17, 18, 9, 10] rfl (nm_thn ?_)))))
   refine ws_seqN Normal__n26 Normal__n27 rfl rfl rfl (ws_seqN Normal__n28 Normal__n29 rfl rfl rfl ?_)
   obtain ⟨a, ha⟩ : ∃ a : Nat, max (ga wd j) (-(ga wd j)) = (a : Int) := ⟨(max (ga wd j) (-(ga wd j))).toNat, by omega⟩
   refine ws_eq 10 (.int .i64 (a : Int)) rfl (int_eq (by omega)) ?_
   refine ws_region rfl (wlm 0 1 rfl rfl rfl rfl rfl rfl rfl (wlo 1 2 rfl rfl rfl (wo_run rfl rfl (run_gtr rfl rfl rfl) (wl_end rfl (nmk [2, 6, 7, 16, 17, 18, 10, 27] rfl ?_)))))
   refine nm_thn ?_
   refine ws_condN Normal__n30 Normal__n31 rfl rfl rfl rfl (fun hb27 => ?_) (fun hb27 => ?_)
   ·replace hb27 := of_decide_eq_true hb27
    refine ws_seqN Normal__n32 Normal__n33 rfl rfl rfl (ws_region rfl (wlo 0 1 rfl rfl rfl (wo_run rfl rfl (run_load1 rfl rfl Try.underlying3 rfl (S4.boxc (i := 2) rfl rfl)) (wlo 1 2 rfl rfl rfl (wo_co rfl rfl rfl rfl rfl rfl rfl cf24 S4 (identity_o n (by omega) S4.lend) ?_)))))
    intro vw3 w3 Nw3 S5 hRw3; clear S4
    subst hRw3
    change SH _ _ _ [_, _, _, _] at S5
    refine wla 2 3 rfl rfl rfl rfl rfl rfl rfl (wl_end rfl (nmk [2, 6, 7, 16, 17, 18, 10, 11] rfl (nm_thn (ws_seqN Normal__n34 Normal__n35 rfl rfl rfl ?_))))
    refine ws_region rfl (wlm 0 1 rfl rfl rfl rfl rfl rfl rfl (wlm 1 2 rfl rfl rfl rfl rfl rfl rfl (wlo 2 3 rfl rfl rfl (wo_c1 rfl rfl rfl rfl rfl rfl rfl cf25 S5 (i := 0) rfl (thenP_w vw3 _ (a : Int) ((PL.id_ n).mem_ (by omega) (by omega)) ((PL.id_ n).mem2_ (by omega) (by omega)) (by (try simp only [idL_len, delL_len]); omega) (by omega) (S5.lend1 (i := 0) rfl)) ?_))))
    rintro vw4 w4 _ _ - S6 ⟨rfl, rfl, rfl⟩; clear S5
    change SH _ _ _ [_, _, _, _] at S6
    refine wl_end rfl (nmk [2, 6, 7, 16, 17, 18, 11] rfl (nm_thn (ws_seqN Normal__n36 Normal__n37 rfl rfl rfl (ws_region rfl ?_))))
    refine wlm 0 1 rfl rfl rfl rfl rfl rfl rfl (wlm 1 2 rfl rfl rfl rfl rfl rfl rfl ?_)
    obtain ⟨A1, c1, rfl, _⟩ := S6.sl (i := 0) rfl
    have S7 := S6.tabsnoc (C := cdInt) (zs := (thenL (idL n) (a : Int))) (i := 2) (q := 0) (H' := [_, _, _, _]) rfl rfl (by decide) rfl; clear S6
    refine wlo 2 3 rfl rfl rfl (wo_buildSlice1 (C := (cdV 38)) (l := [_]) rfl rfl rfl rfl sl35 rfl rfl rfl rfl S7 ?_)
    intro gb2 w5 S8; clear S7
    refine wlo 3 4 rfl rfl rfl (wo_append1 (C := (cdV 38)) (i := 2) (q := 0) (⟨A1, (thenL (idL n) (a : Int)).length, c1⟩ : SlV) rfl rfl rfl rfl rfl rfl rfl rfl sl35 S8 rfl rfl rfl (by show (_ + 1) * 24 ≤ _; first | omega | (simp only [lens]; omega)) ?_)
    intro vrl1 w6 S9; clear S8
    have S10 := S9.pick [1, 2, 3, 4] [_, _, _, _] (by decide) ⟨rfl, rfl, rfl, rfl, trivial⟩; clear S9
    refine wla 4 5 rfl rfl rfl rfl rfl rfl rfl (wl_end rfl (nmk [2, 6, 7, 16, 17, 18] rfl (nm_thn (ws_exit rfl rfl ?_))))
    refine nm_thn (ws_region rfl (wlo 0 1 rfl rfl rfl (wo_run rfl rfl (run_add rfl rfl rfl (by first | omega | (simp only [lens]; omega))) ?_)))
    refine wlm 1 2 rfl rfl rfl rfl rfl rfl rfl (wl_end rfl (nm_lp ?_))
    intro ax_ hax_
    refine ⟨_, ?hq2m, ⟨j + 1, z, vs0 ++ [(⟨A1, (thenL (idL n) (a : Int)).length, c1⟩ : SlV)], xs0 ++ [thenL (idL n) (a : Int)], _, rfl, hax_.sub ⟨rfl, rfl, rfl, rfl, rfl, rfl, trivial⟩, S10.pick [1, 2, 3] [_, _, _] (by decide) ⟨rfl, rfl, rfl, trivial⟩, ?hq2f0, ?hq2f1, ?hq2f2, ?hq2f3⟩⟩
    case hq2f0 => omega
    case hq2f1 => (rw [← w_pos (by omega) ha (by omega)]; exact hnf.pos (by omega) (by omega))
    case hq2f2 => (simp [hxl])
    case hq2f3 => omega
    case hq2m => omega
   ·replace hb27 := of_decide_eq_false hb27
    refine ws_skip rfl (nmk [2, 6, 7, 16, 17, 18, 10] rfl (nm_thn (ws_seqN Normal__n38 Normal__n39 rfl rfl rfl (ws_seqN Normal__n40 Normal__n41 rfl rfl rfl ?_))))
    refine ws_region rfl (wlm 0 1 rfl rfl rfl rfl rfl rfl rfl (wlo 1 2 rfl rfl rfl (wo_run rfl rfl (run_lenR (C := (cdV 38)) (i := 0) rfl rfl rfl rfl rfl rfl sl35 S4 rfl) (wlm 2 3 rfl rfl rfl rfl rfl rfl rfl (wl_end rfl ?_)))))
    refine nmk [2, 6, 7, 16, 17, 18, 10, 38, 39] rfl (nm_thn (ws_blockN Normal__n42 2 rfl rfl rfl ?_))
    refine ws_loopE (fun mx_ ax_ wx_ => ∃ (k : Nat) (vs1 : List SlV) (xs1 : List (List Int)) (vrm : Value), mx_ = xs0.length - k ∧ Env 101 [(2, .pointer (some ⟨gb1, 0, none⟩)), (6, .int .i64 z), (7, vrm), (16, .slice wdA wd.length wdc), (17, .int .i64 (wd.length : Int)), (18, .int .i64 (j : Int)), (10, .int .i64 (a : Int)), (38, .int .i64 (vs0.length : Int)), (39, .int .i64 (k : Int))] ax_ ∧ SH wx_ M X [Rs.row (cdV 38) vrm vs1, Rs.tab cdInt vs1 xs1, Rs.box gb1 3 [.int .i64 (n : Int)]] ∧ k ≤ xs0.length ∧ flI n xs0 xs1 k ∧ vs1.length = xs0.length) rfl ?_ ?_
    ·intro ax_ hax_
     refine ⟨_, ⟨0, vs0, xs0, _, rfl, hax_.sub ⟨rfl, rfl, rfl, rfl, rfl, rfl, rfl, rfl, rfl, trivial⟩, S4.pick [0, 1, 2] [_, _, _] (by decide) ⟨rfl, rfl, rfl, trivial⟩, ?hq3f0, ?hq3f1, ?hq3f2⟩⟩
     case hq3f0 => omega
     case hq3f1 => exact flI.zero _ _
     case hq3f2 => exact hvl
    ·rintro m2 a2 w7 ⟨k, vs1, xs1, vrm, rfl, he2, S11, hk, hfl, hv1⟩
     clear S4
     refine ws_in he2 (c := Normal__n43) rfl ?_
     clear he2 a2
     have hx1 := hfl.1
     refine ws_seqN Normal__n44 Normal__n45 rfl rfl rfl (ws_region rfl (wlo 0 1 rfl rfl rfl (wo_run rfl rfl (run_lss rfl rfl rfl) (wl_end rfl (nm_thn ?_)))))
     refine ws_seqN Normal__n46 Normal__n47 rfl rfl rfl ?_
     refine ws_condN Normal__n48 Normal__n49 rfl rfl rfl rfl (fun hb40 => ?_) (fun hb40 => ?_)
     ·replace hb40 := of_decide_eq_true hb40
      refine ws_skip rfl (nmk [2, 6, 7, 16, 17, 18, 10, 38, 39] rfl (nm_thn (ws_seqN Normal__n50 Normal__n51 rfl rfl rfl (ws_blockN Normal__n52 3 rfl rfl rfl ?_))))
      refine ws_seqN Normal__n53 Normal__n54 rfl rfl rfl (ws_region rfl (wlm 0 1 rfl rfl rfl rfl rfl rfl rfl (wla 1 2 rfl rfl rfl rfl rfl rfl rfl (wl_end rfl ?_))))
      refine nmk [2, 6, 7, 16, 17, 18, 10, 38, 39, 12] rfl (nm_thn (ws_region rfl (wlm 0 1 rfl rfl rfl rfl rfl rfl rfl (wlm 1 2 rfl rfl rfl rfl rfl rfl rfl ?_))))
      refine wlm 2 3 rfl rfl rfl rfl rfl rfl rfl (wlm 3 4 rfl rfl rfl rfl rfl rfl rfl (wlo 4 5 rfl rfl rfl (wo_run rfl rfl (run_indexR (C := (cdV 38)) (i := 0) k rfl rfl rfl sl35 S11 rfl (by first | rfl | omega) (by first | omega | (simp only [lens]; omega))) ?_)))
      refine wlo 5 6 rfl rfl rfl (wo_run rfl rfl (run_load1 rfl rfl Try.underlying38 rfl (S11.rowc (i := 0) (e := k) (j := 0) rfl (by first | omega | (simp only [lens]; omega)) rfl rfl)) ?_)
      have hd1 := S11.lendtab (i := 1) rfl (by first | exact hfl.rooms hnf hn | exact hnf2.rooms hn)
      obtain ⟨hn1, hr1⟩ := hd1.2 k (by first | omega | (simp only [lens]; omega) | (rw [ga_set _ _ _ _ (by first | omega | (simp only [List.length_set]; omega)), if_pos rfl]; simp only [List.length_set]; omega))
      clear hd1
      have hcall1 := flipped_o (ga xs1 k) hr1 (by rw [hfl.at_ (by omega)]; exact hnf.ga_ _ (by omega)) (by omega) S11.lend
      refine wlo 6 7 rfl rfl rfl (wo_co rfl rfl rfl rfl rfl rfl rfl cf26 S11 (Co.cast (by simp only [hn1]) (hcall1)) ?_)
      intro vw8 w8 Nw8 S12 hRw8; clear S11
      subst hRw8
      change SH _ _ _ [_, _, _, _] at S12
      refine wlo 7 8 rfl rfl rfl (wo_run rfl rfl (run_indexR (C := (cdV 38)) (i := 1) k rfl rfl rfl sl35 S12 rfl (by first | rfl | omega) (by first | omega | (simp only [lens]; omega))) ?_)
      obtain ⟨A2, c2, rfl, _⟩ := S12.sl (i := 0) rfl
      have S14 := S12.tabput (C := cdInt) (zs := (flipL n (ga xs1 k))) (i := 2) (q := 0) (H' := [_, _, _, _]) k rfl rfl (by decide) (by first | omega | (simp only [lens]; omega) | (rw [ga_set _ _ _ _ (by first | omega | (simp only [List.length_set]; omega)), if_pos rfl]; simp only [List.length_set]; omega)) rfl; clear S12
      refine wlo 8 9 rfl rfl rfl (wo_storeR (C := (cdV 38)) (i := 1) (e := k) (j := 0) (us := [_]) (H' := [_, _, _, _]) (⟨A2, (flipL n (ga xs1 k)).length, c2⟩ : SlV) rfl rfl S14 rfl (by first | omega | (simp only [lens]; omega)) rfl rfl rfl sz38 rfl rfl rfl rfl ?_)
      intro w10 S15; clear S14
      refine wl_end rfl (nm_blk (nmk [2, 6, 7, 16, 17, 18, 10, 38, 39] rfl (nm_thn (ws_region rfl ?_))))
      refine wlo 0 1 rfl rfl rfl (wo_run rfl rfl (run_add rfl rfl rfl (by first | omega | (simp only [lens]; omega))) ?_)
      refine wlm 1 2 rfl rfl rfl rfl rfl rfl rfl (wl_end rfl (nm_lp ?_))
      intro ax_ hax_
      refine ⟨_, ?hq4m, ⟨k + 1, vs1.set k (⟨A2, (flipL n (ga xs1 k)).length, c2⟩ : SlV), xs1.set k (flipL n (ga xs1 k)), _, rfl, hax_.sub ⟨rfl, rfl, rfl, rfl, rfl, rfl, rfl, rfl, rfl, trivial⟩, S15.pick [1, 2, 3] [_, _, _] (by decide) ⟨rfl, rfl, rfl, trivial⟩, ?hq4f0, ?hq4f1, ?hq4f2⟩⟩
      case hq4f0 => omega
      case hq4f1 => exact hfl.step (by omega)
      case hq4f2 => (rw [List.length_set]; exact hv1)
      case hq4m => omega
     ·replace hb40 := of_decide_eq_false hb40
      refine ws_exit rfl rfl (nmk [2, 6, 7, 16, 17, 18, 10] rfl (nm_thn (ws_seqN Normal__n55 Normal__n56 rfl rfl rfl ?_)))
      have hfm := hfl.done (by omega)
      refine ws_region rfl (wlo 0 1 rfl rfl rfl (wo_run rfl rfl (run_load1 rfl rfl Try.underlying3 rfl (S11.boxc (i := 2) rfl rfl)) (wlo 1 2 rfl rfl rfl (wo_co rfl rfl rfl rfl rfl rfl rfl cf27 S11 (delta_o n (by omega) (by omega) S11.lend) ?_))))
      intro vw11 w11 Nw11 S16 hRw11; clear S11
      subst hRw11
      change SH _ _ _ [_, _, _, _] at S16
      refine wla 2 3 rfl rfl rfl rfl rfl rfl rfl (wl_end rfl (nmk [2, 6, 7, 16, 17, 18, 10, 13] rfl (nm_thn (ws_seqN Normal__n57 Normal__n58 rfl rfl rfl ?_))))
      refine ws_region rfl (wlm 0 1 rfl rfl rfl rfl rfl rfl rfl (wlm 1 2 rfl rfl rfl rfl rfl rfl rfl (wlo 2 3 rfl rfl rfl (wo_c1 rfl rfl rfl rfl rfl rfl rfl cf25 S16 (i := 0) rfl (thenP_w vw11 _ (a : Int) ((PL.del_ n).mem_ (by omega) (by omega)) ((PL.del_ n).mem2_ (by omega) (by omega)) (by (try simp only [idL_len, delL_len]); omega) (by omega) (S16.lend1 (i := 0) rfl)) ?_))))
      rintro vw12 w12 _ _ - S17 ⟨rfl, rfl, rfl⟩; clear S16
      change SH _ _ _ [_, _, _, _] at S17
      refine wl_end rfl (nmk [2, 6, 7, 16, 17, 18, 13] rfl (nm_thn (ws_seqN Normal__n59 Normal__n60 rfl rfl rfl (ws_region rfl ?_))))
      refine wlm 0 1 rfl rfl rfl rfl rfl rfl rfl (wlm 1 2 rfl rfl rfl rfl rfl rfl rfl ?_)
      obtain ⟨A3, c3, rfl, _⟩ := S17.sl (i := 0) rfl
      have S18 := S17.tabsnoc (C := cdInt) (zs := (thenL (delL n) (a : Int))) (i := 2) (q := 0) (H' := [_, _, _, _]) rfl rfl (by decide) rfl; clear S17
      refine wlo 2 3 rfl rfl rfl (wo_buildSlice1 (C := (cdV 38)) (l := [_]) rfl rfl rfl rfl sl35 rfl rfl rfl rfl S18 ?_)
      intro gb3 w13 S19; clear S18
      refine wlo 3 4 rfl rfl rfl (wo_append1 (C := (cdV 38)) (i := 2) (q := 0) (⟨A3, (thenL (delL n) (a : Int)).length, c3⟩ : SlV) rfl rfl rfl rfl rfl rfl rfl rfl sl35 S19 rfl rfl rfl (by show (_ + 1) * 24 ≤ _; first | omega | (simp only [lens]; omega)) ?_)
      intro vrm1 w14 S20; clear S19
      have S21 := S20.pick [1, 2, 3, 4] [_, _, _, _] (by decide) ⟨rfl, rfl, rfl, rfl, trivial⟩; clear S20
      refine wla 4 5 rfl rfl rfl rfl rfl rfl rfl (wl_end rfl (nmk [2, 6, 7, 16, 17, 18] rfl (nm_thn (ws_region rfl ?_))))
      refine wlm 0 1 rfl rfl rfl rfl rfl rfl rfl (wlo 1 2 rfl rfl rfl (wo_run rfl rfl (run_sub rfl rfl rfl (by first | omega | (simp only [lens]; omega))) ?_))
      refine wla 2 3 rfl rfl rfl rfl rfl rfl rfl (wl_end rfl (nm_blk (nmk [2, 6, 7, 16, 17, 18] rfl (nm_thn ?_))))
      refine ws_region rfl (wlo 0 1 rfl rfl rfl (wo_run rfl rfl (run_add rfl rfl rfl (by first | omega | (simp only [lens]; omega))) ?_))
      refine wlm 1 2 rfl rfl rfl rfl rfl rfl rfl (wl_end rfl (nm_lp ?_))
      intro ax_ hax_
      refine ⟨_, ?hq5m, ⟨j + 1, z - 1, vs1 ++ [(⟨A3, (thenL (delL n) (a : Int)).length, c3⟩ : SlV)], xs1 ++ [thenL (delL n) (a : Int)], _, rfl, hax_.sub ⟨rfl, rfl, rfl, rfl, rfl, rfl, trivial⟩, S21.pick [1, 2, 3] [_, _, _] (by decide) ⟨rfl, rfl, rfl, trivial⟩, ?hq5f0, ?hq5f1, ?hq5f2, ?hq5f3⟩⟩
      case hq5f0 => omega
      case hq5f1 => (rw [← w_neg (by omega) ha (by omega), hfm]; exact hnf.neg (by omega) (by omega))
      case hq5f2 => (rw [hfm]; simp [hxl])
      case hq5f3 => omega
      case hq5m => omega
  ·replace hb19 := of_decide_eq_false hb19
   refine ws_exit rfl rfl (nmk [2, 6, 7] rfl (nm_thn (ws_seqN Normal__n61 Normal__n62 rfl rfl rfl (ws_seqN Normal__n63 Normal__n64 rfl rfl rfl ?_))))
   refine ws_region rfl (wla 0 1 rfl rfl rfl rfl rfl rfl rfl (wl_end rfl (nm_thn (ws_blockN Normal__n65 4 rfl rfl rfl ?_))))
   refine ws_loopE (fun mx_ ax_ wx_ => ∃ (b2 : Bool) (xs2 : List (List Int)), mx_ = msr b2 xs2 ∧ Env 101 [(2, .pointer (some ⟨gb1, 0, none⟩)), (6, .int .i64 z), (7, vrl), (14, .bool b2)] ax_ ∧ SH wx_ M X [Rs.row (cdV 38) vrl vs0, Rs.tab cdInt vs0 xs2, Rs.box gb1 3 [.int .i64 (n : Int)]] ∧ NfI n wd z xs2 ∧ xs2.length = wd.length ∧ (b2 = false → Stb n xs2)) rfl ?_ ?_
   ·intro ax_ hax_
    refine ⟨_, ⟨true, xs0, rfl, hax_.sub ⟨rfl, rfl, rfl, rfl, trivial⟩, S4.pick [0, 1, 2] [_, _, _] (by decide) ⟨rfl, rfl, rfl, trivial⟩, ?hq6f0, ?hq6f1, ?hq6f2⟩⟩
    case hq6f0 => (rw [show j = wd.length by omega, List.take_length] at hnf; exact hnf)
    case hq6f1 => omega
    case hq6f2 => (intro h; cases h)
   ·rintro m3 a3 w15 ⟨b2, xs2, rfl, he3, S22, hnf2, hx2, hst2⟩
    clear S4
    refine ws_in he3 (c := Normal__n66) rfl ?_
    clear he3 a3
    refine ws_seqN Normal__n67 Normal__n68 rfl rfl rfl (ws_seqN Normal__n69 Normal__n70 rfl rfl rfl (ws_region rfl (wlm 0 1 rfl rfl rfl rfl rfl rfl rfl (wl_end rfl ?_))))
    refine nmk [2, 6, 7, 63] rfl (nm_thn ?_)
    refine ws_condN Normal__n71 Normal__n72 rfl rfl rfl rfl (fun hb63 => ?_) (fun hb63 => ?_)
    ·refine ws_skip rfl (nmk [2, 6, 7] rfl (nm_thn (ws_blockN Normal__n73 5 rfl rfl rfl (ws_seqN Normal__n74 Normal__n75 rfl rfl rfl ?_))))
     refine ws_region rfl (wla 0 1 rfl rfl rfl rfl rfl rfl rfl (wl_end rfl (nm_thn (ws_seqN Normal__n76 Normal__n77 rfl rfl rfl ?_))))
     refine ws_region rfl (wlm 0 1 rfl rfl rfl rfl rfl rfl rfl (wlo 1 2 rfl rfl rfl (wo_run rfl rfl (run_lenR (C := (cdV 38)) (i := 0) rfl rfl rfl rfl rfl rfl sl35 S22 rfl) (wlo 2 3 rfl rfl rfl (wo_run rfl rfl (run_sub rfl rfl rfl (by first | omega | (simp only [lens]; omega))) ?_)))))
     refine wlm 3 4 rfl rfl rfl rfl rfl rfl rfl (wl_end rfl (nmk [2, 6, 7, 14, 66, 67] rfl (nm_thn (ws_blockN Normal__n78 6 rfl rfl rfl ?_))))
     refine ws_loopE (fun mx_ ax_ wx_ => ∃ (k3 : Nat) (b3 : Bool) (xs3 : List (List Int)), mx_ = wd.length - k3 ∧ Env 101 [(2, .pointer (some ⟨gb1, 0, none⟩)), (6, .int .i64 z), (7, vrl), (14, .bool b3), (66, .int .i64 ((vs0.length : Int) - 1)), (67, .int .i64 (k3 : Int))] ax_ ∧ SH wx_ M X [Rs.row (cdV 38) vrl vs0, Rs.tab cdInt vs0 xs3, Rs.box gb1 3 [.int .i64 (n : Int)]] ∧ k3 ≤ wd.length ∧ NfI n wd z xs3 ∧ xs3.length = wd.length ∧ prg n (phi xs2) b3 xs3 k3) rfl ?_ ?_
     ·intro ax_ hax_
      refine ⟨_, ⟨0, false, xs2, rfl, hax_.sub ⟨rfl, rfl, rfl, rfl, rfl, rfl, trivial⟩, S22.pick [0, 1, 2] [_, _, _] (by decide) ⟨rfl, rfl, rfl, trivial⟩, ?hq7f0, ?hq7f1, ?hq7f2, ?hq7f3⟩⟩
      case hq7f0 => omega
      case hq7f1 => exact hnf2
      case hq7f2 => exact hx2
      case hq7f3 => exact prg.zero _ _
     ·rintro m4 a4 w16 ⟨k3, b3, xs3, rfl, he4, S23, hk3, hnf3, hx3, hpr3⟩
      clear S22
      refine ws_in he4 (c := Normal__n79) rfl ?_
      clear he4 a4
      refine ws_seqN Normal__n80 Normal__n81 rfl rfl rfl (ws_region rfl (wlo 0 1 rfl rfl rfl (wo_run rfl rfl (run_lss rfl rfl rfl) (wl_end rfl (nm_thn ?_)))))
      refine ws_seqN Normal__n82 Normal__n83 rfl rfl rfl ?_
      refine ws_condN Normal__n84 Normal__n85 rfl rfl rfl rfl (fun hb68 => ?_) (fun hb68 => ?_)
      ·replace hb68 := of_decide_eq_true hb68
       refine ws_skip rfl (nmk [2, 6, 7, 14, 66, 67] rfl (nm_thn (ws_seqN Normal__n86 Normal__n87 rfl rfl rfl (ws_blockN Normal__n88 7 rfl rfl rfl ?_))))
       refine ws_seqN Normal__n89 Normal__n90 rfl rfl rfl (ws_region rfl (wlm 0 1 rfl rfl rfl rfl rfl rfl rfl (wla 1 2 rfl rfl rfl rfl rfl rfl rfl (wl_end rfl ?_))))
       refine nmk [2, 6, 7, 14, 66, 67, 15] rfl (nm_thn (ws_blockN Normal__n91 8 rfl rfl rfl ?_))
       refine ws_loopE (fun mx_ ax_ wx_ => ∃ (b4 : Bool) (xs4 : List (List Int)), mx_ = phi xs4 + 1 * 0 ∧ Env 101 [(2, .pointer (some ⟨gb1, 0, none⟩)), (6, .int .i64 z), (7, vrl), (14, .bool b4), (66, .int .i64 ((vs0.length : Int) - 1)), (67, .int .i64 (k3 : Int)), (15, .int .i64 (k3 : Int))] ax_ ∧ SH wx_ M X [Rs.row (cdV 38) vrl vs0, Rs.tab cdInt vs0 xs4, Rs.box gb1 3 [.int .i64 (n : Int)]] ∧ NfI n wd z xs4 ∧ xs4.length = wd.length ∧ prg n (phi xs2) b4 xs4 k3) rfl ?_ ?_
       ·intro ax_ hax_
        refine ⟨_, ⟨b3, xs3, rfl, hax_.sub ⟨rfl, rfl, rfl, rfl, rfl, rfl, rfl, trivial⟩, S23.pick [0, 1, 2] [_, _, _] (by decide) ⟨rfl, rfl, rfl, trivial⟩, ?hq8f0, ?hq8f1, ?hq8f2⟩⟩
        case hq8f0 => exact hnf3
        case hq8f1 => exact hx3
        case hq8f2 => exact hpr3
       ·rintro m5 a5 w17 ⟨b4, xs4, rfl, he5, S24, hnf4, hx4, hpr4⟩
        clear S23
        refine ws_in he5 (c := Normal__n92) rfl ?_
        clear he5 a5
        have hpl9 := hnf4.ga_
        have htl9 : vs0.length = xs4.length := S24.tablen (i := 1) rfl
        have hns9 : ∀ i9, i9 < xs4.length → (ga vs0 i9).n = (ga xs4 i9).length := fun i9 hi9 => (S24.tabrow (i := 1) rfl hi9).1
        refine ws_seqN Normal__n93 Normal__n94 rfl rfl rfl (ws_seqN Normal__n95 Normal__n96 rfl rfl rfl (ws_draw rfl (by kernel_rfl) S24 10 rfl ?_))
        clear S24
        refine wap 0 9 rfl (by kernel_rfl) rfl rfl rfl (fun w18 => run_move rfl rfl) ?_
        refine wap 1 8 rfl (by kernel_rfl) rfl rfl rfl (fun w19 => run_move rfl rfl) ?_
        refine wat 2 7 rfl (by kernel_rfl) rfl rfl rfl (fun M3 N3 w20 hle8 S27 => .inl (run_indexR (C := (cdV 38)) (i := 0) k3 rfl rfl rfl sl35 S27.suf rfl (by first | rfl | omega) (by first | omega | (simp only [lens]; omega)))) ?_
        refine wat 3 6 rfl (by kernel_rfl) rfl rfl rfl (fun M4 N4 w21 hle9 S28 => .inl (run_load1 rfl rfl Try.underlying38 rfl (S28.suf.rowc (i := 0) (e := k3) (j := 0) rfl (by first | omega | (simp only [lens]; omega)) rfl rfl))) ?_
        refine wap 4 5 rfl (by kernel_rfl) rfl rfl rfl (fun w22 => run_move rfl rfl) ?_
        refine wap 5 4 rfl (by kernel_rfl) rfl rfl rfl (fun w23 => run_move rfl rfl) ?_
        refine wap 6 3 rfl (by kernel_rfl) rfl rfl rfl (fun w24 => run_add rfl rfl rfl (by first | omega | (simp only [lens]; omega))) ?_
        refine wat 7 2 rfl (by kernel_rfl) rfl rfl rfl (fun M8 N8 w25 hle13 S32 => .inl (run_indexR (C := (cdV 38)) (i := 0) (k3 + 1) rfl rfl rfl sl35 S32.suf rfl (by first | rfl | omega) (by first | omega | (simp only [lens]; omega)))) ?_
        refine wat 8 1 rfl (by kernel_rfl) rfl rfl rfl (fun M9 N9 w26 hle14 S33 => .inl (run_load1 rfl rfl Try.underlying38 rfl (S33.suf.rowc (i := 0) (e := k3 + 1) (j := 0) rfl (by first | omega | (simp only [lens]; omega)) rfl rfl))) ?_
        refine wa_only (i := 9) 0 rfl (by kernel_rfl) rfl rfl (fun w28 S35 => ?_)
        have S36 := S35.tabtwo (i := 1) k3 rfl (by omega)
        have hcallw29 := Shift_b (hpl9 k3 (by omega)) (hpl9 (k3 + 1) (by omega)) hn2 hn (S36.lend1 (i := 0) rfl)
        have hn1w29 := hns9 k3 (by omega); have hn2w29 := hns9 (k3 + 1) (by omega)
        refine (wo_c1 (i := 0) rfl rfl rfl rfl rfl rfl rfl cf28 S36 rfl hcallw29 ?_)
        rintro vw29 w29 _ _ - S37 ⟨rfl, rfl, rfl⟩; clear S36 hcallw29
        have S38 : SH _ _ _ [_, _, _] := S37.tabtwoback (i := 1) rfl (by omega) htl9 (by rw [shA_len]; exact hn1w29) (by rw [shB_len]; exact hn2w29); clear S37 S35
        refine LeftW.turn (by kernel_rfl) S38 ?_; clear S38
        change WA _ _ _ _ _ _ _ _ _ _ _ _ [_, _, _]
        refine wa_end (by kernel_rfl) (fun w30 S39 => ?_)
        refine nmk [2, 6, 7, 14, 66, 67, 15, 79] rfl (nm_thn ?_)
        refine ws_condN Normal__n97 Normal__n98 rfl rfl rfl rfl (fun hb79 => ?_) (fun hb79 => ?_)
        ·have hss := sh_step hn hnf4 (k := k3) (by omega) (of_decide_eq_true hb79)
         refine ws_skip rfl (nmk [2, 6, 7, 66, 67, 15] rfl (nm_thn (ws_blockN Normal__n99 9 rfl rfl rfl (ws_region rfl ?_))))
         refine wla 0 1 rfl rfl rfl rfl rfl rfl rfl (wl_end rfl (nm_blk (nm_lp ?_)))
         intro ax_ hax_
         refine ⟨_, ?hq9m, ⟨true, ((xs4.set k3 (shA n (ga xs4 k3) (ga xs4 (k3 + 1)))).set (k3 + 1) (shB n (ga xs4 k3) (ga xs4 (k3 + 1)))), rfl, hax_.sub ⟨rfl, rfl, rfl, rfl, rfl, rfl, rfl, trivial⟩, S39.pick [0, 1, 2] [_, _, _] (by decide) ⟨rfl, rfl, rfl, trivial⟩, ?hq9f0, ?hq9f1, ?hq9f2⟩⟩
         case hq9f0 => exact hss.1
         case hq9f1 => simpa using hx4
         case hq9f2 => exact hpr4.shift hss.2
         case hq9m => (have h9 := hss.2; omega)
        ·rw [sh_same (of_decide_eq_false hb79)] at S39
         refine ws_exit rfl rfl (nm_blk (nmk [2, 6, 7, 14, 66, 67] rfl (nm_thn (ws_region rfl ?_))))
         refine wlo 0 1 rfl rfl rfl (wo_run rfl rfl (run_add rfl rfl rfl (by first | omega | (simp only [lens]; omega))) ?_)
         refine wlm 1 2 rfl rfl rfl rfl rfl rfl rfl (wl_end rfl (nm_lp ?_))
         intro ax_ hax_
         refine ⟨_, ?hq10m, ⟨k3 + 1, b4, xs4, rfl, hax_.sub ⟨rfl, rfl, rfl, rfl, rfl, rfl, trivial⟩, S39.pick [0, 1, 2] [_, _, _] (by decide) ⟨rfl, rfl, rfl, trivial⟩, ?hq10f0, ?hq10f1, ?hq10f2, ?hq10f3⟩⟩
         case hq10f0 => omega
         case hq10f1 => exact hnf4
         case hq10f2 => exact hx4
         case hq10f3 => exact hpr4.step (sh_lw (by (have h9 := of_decide_eq_false hb79; omega)))
         case hq10m => omega
      ·replace hb68 := of_decide_eq_false hb68
       refine ws_exit rfl rfl (nm_blk (nm_lp ?_))
       intro ax_ hax_
       refine ⟨_, ?hq11m, ⟨b3, xs3, rfl, hax_.sub ⟨rfl, rfl, rfl, rfl, trivial⟩, S23.pick [0, 1, 2] [_, _, _] (by decide) ⟨rfl, rfl, rfl, trivial⟩, ?hq11f0, ?hq11f1, ?hq11f2⟩⟩
       case hq11f0 => exact hnf3
       case hq11f1 => exact hx3
       case hq11f2 => exact hpr3.stb (by omega)
       case hq11m => (have h9 := hpr3.msr_ hb63; omega)
    ·refine ws_exit rfl rfl (nmk [2, 6, 7] rfl (nm_thn (ws_seqN Normal__n100 Normal__n101 rfl rfl rfl ?_)))
     obtain ⟨M11, hle16, S40, hd2⟩ := S22.pubtab (i := 1) (H' := [_, _, _]) rfl rfl (by first | exact hfl.rooms hnf hn | exact hnf2.rooms hn)
     clear S22
     replace hwd := hwd.mono (Hp.un_mono hle16 S40.mx)
     obtain ⟨hnf5, hst5, hid5⟩ := nf_filt hnf2 (hst2 (by simpa using hb63))
     have hlf5 : (xs2.filter fun q => !decide (q = idL n)).length ≤ wd.length := by rw [← hx2]; exact List.length_filter_le ..
     have hv2 := hd2.1
     refine ws_region rfl (wlm 0 1 rfl rfl rfl rfl rfl rfl rfl (wlo 1 2 rfl rfl rfl (wo_run rfl rfl (run_makeFunc (vs := [_]) rfl rfl rfl rfl) ?_)))
     have hcallw31 := DeleteFuncP_w 30 _ (fun q => decide (q = idL n)) hd2 (by omega) cf30 (fun w9 Y9 hl9 S9 A9 c9 x9 _ hr9 => Normal1_q x9 n hr9 (((S40.less (i := 0) rfl).boxM (i := 2) rfl).mono hl9) hn S9) (S40.lend1 (i := 0) rfl)
     refine wlo 2 3 rfl rfl rfl (wo_c1 (i := 0) rfl rfl rfl rfl rfl rfl rfl cf29 S40 rfl hcallw31 ?_)
     rintro vD1 w31 _ _ - S41 ⟨rfl, ws1, rfl, hd3⟩; clear S40 hcallw31
     change SH _ _ _ [_, _, _] at S41
     have hwl9 : ws1.length ≤ 20 := by rw [hd3.1]; exact Nat.le_trans (List.length_filter_le ..) (by omega)
     obtain ⟨M12, hle17, S42, ⟨A4, c4, e1, hr2⟩⟩ := S41.pubrow (i := 0) (H' := [_, _, _]) rfl rfl (by show _ * 24 ≤ _; first | omega | (simp only [lens]; omega))
     clear S41; subst e1
     replace hwd := hwd.mono (Hp.un_mono hle17 S42.mx)
     replace hd2 := hd2.mono hle17
     replace hd3 := hd3.mono hle17
     refine wla 3 4 rfl rfl rfl rfl rfl rfl rfl (wl_end rfl (nmk [2, 6, 7] rfl (nm_thn (ws_seqN Normal__n102 Normal__n103 rfl rfl rfl ?_))))
     refine ws_blockN Normal__n104 10 rfl rfl rfl ?_
     refine ws_loopE (fun mx_ ax_ wx_ => ∃ (z5 : Int) (A5 : Option Addr) (c5 : Nat) (vs5 : List SlV) (ys : List (List Int)) (M13 : Hp), M12.le M13 ∧ mx_ = ys.length + 1 * 0 ∧ Env 101 [(2, .pointer (some ⟨gb1, 0, none⟩)), (6, .int .i64 z5), (7, .slice A5 vs5.length c5)] ax_ ∧ SH wx_ M13 X [Rs.box gb1 3 [.int .i64 (n : Int)]] ∧ RdA (cdV 38) M13 A5 c5 vs5 ∧ Rd2 cdInt M13 vs5 ys ∧ NfI n wd z5 ys ∧ Stb n ys ∧ (∀ p ∈ ys, p ≠ idL n) ∧ (-20 ≤ z5 ∧ z5 + ys.length ≤ 20 ∧ ys.length ≤ 20)) rfl ?_ ?_
     ·intro ax_ hax_
      refine ⟨_, ⟨z, A4, c4, ws1, (xs2.filter fun q => !decide (q = idL n)), _, Hp.le_refl _, rfl, hax_.sub ⟨rfl, rfl, rfl, trivial⟩, S42.pick [2] [_] (by decide) ⟨rfl, trivial⟩, ?hq12f0, ?hq12f1, ?hq12f2, ?hq12f3, ?hq12f4, ?hq12f5⟩⟩
      case hq12f0 => exact hr2
      case hq12f1 => exact hd3
      case hq12f2 => exact hnf5
      case hq12f3 => exact hst5
      case hq12f4 => exact hid5
      case hq12f5 => omega
     ·rintro m6 a6 w32 ⟨z5, A5, c5, vs5, ys, M13, hle18, rfl, he6, S43, h5, hd5, hnf6, hst6, hid6, hz6⟩
      clear S42
      refine ws_in he6 (c := Normal__n105) rfl ?_
      clear he6 a6
      replace hwd := hwd.mono (Hp.un_mono hle18 S43.mx)
      replace hd2 := hd2.mono hle18
      replace hd3 := hd3.mono hle18
      replace hr2 := hr2.mono hle18
      have hv5 := hd5.1
      have hil := delL_len n
      refine ws_seqN Normal__n106 Normal__n107 rfl rfl rfl (ws_seqN Normal__n108 Normal__n109 rfl rfl rfl (ws_draw rfl (by kernel_rfl) S43 11 rfl ?_))
      clear S43
      refine wap 0 10 rfl (by kernel_rfl) rfl rfl rfl (fun w33 => run_move rfl rfl) ?_
      refine wat 1 9 rfl (by kernel_rfl) rfl rfl rfl (fun M15 N12 w34 hle20 S45 => .inl (run_len rfl rfl rfl rfl rfl rfl Try.underlying35)) ?_
      refine wap 2 8 rfl (by kernel_rfl) rfl rfl rfl (fun w35 => run_gtr rfl rfl rfl) ?_
      refine wap 3 7 rfl (by kernel_rfl) rfl rfl rfl (fun w36 => run_move rfl rfl) ?_
      refine wa_split (t := 87) rfl (fun hg87 => ?_) (fun hg87 => ?_)
      ·replace hg87 := of_decide_eq_true hg87
       refine wap 4 6 rfl (by kernel_rfl) ⟨_, _, _, rfl, rfl, rfl, rfl⟩ rfl rfl (fun w37 => run_move rfl rfl) ?_
       refine wat 5 5 rfl (by kernel_rfl) ⟨_, _, _, rfl, rfl, rfl, rfl⟩ rfl rfl (fun M19 N16 w38 hle24 S49 => .inl (run_indexM (C := (cdV 38)) 0 rfl rfl rfl sl35 (by first | rfl | omega) (h5.mono hle24) (by first | omega | (simp only [lens]; omega)))) ?_
       obtain ⟨hn2, hr3⟩ := hd5.2 0 (by first | omega | (simp only [lens]; omega))
       have rmhr3 : (ga ys 0).length * 8 ≤ 140737488355328 := hr3.room
       refine wat 6 4 rfl (by kernel_rfl) ⟨_, _, _, rfl, rfl, rfl, rfl⟩ rfl rfl (fun M20 N17 w39 hle25 S50 => .inl (run_load1 rfl rfl Try.underlying38 rfl ((h5.mono hle25).cell S50.m (i := 0) (by first | omega | (simp only [lens]; omega)) 0 rfl (congrArg (fun n => some (Value.slice _ n _)) hn2)))) ?_
       refine wat 7 3 rfl (by kernel_rfl) ⟨_, _, _, rfl, rfl, rfl, rfl⟩ rfl rfl (fun M21 N18 w40 hle26 S51 => .inl (run_load1 rfl rfl Try.underlying3 rfl (S51.suf.boxc (i := 0) rfl rfl))) ?_
       refine wa_only (i := 8) 2 rfl (by kernel_rfl) ⟨_, _, _, rfl, rfl, rfl, rfl⟩ rfl (fun w42 S53 => ?_)
       refine (wo_co rfl rfl rfl rfl rfl rfl rfl cf27 S53 (delta_o n (by omega) (by omega) S53.lend) ?_)
       intro vw43 w43 Nw43 S54 hRw43; clear S53
       subst hRw43
       change SH _ _ _ [_, _] at S54
       refine LeftW.grow [_] (Hp.le_refl _) S54 ?_; clear S54
       change WA _ _ _ _ _ _ _ _ _ _ _ _ [_, _]
       refine wa_only (i := 9) 1 rfl (by kernel_rfl) ⟨_, _, _, rfl, rfl, rfl, rfl⟩ rfl (fun w45 S56 => ?_)
       obtain ⟨A5, c5, e2, hr4⟩ := S56.lendRd (i := 0) rfl (by show _ * 8 ≤ _; first | omega | (simp only [lens]; omega))
       have hcall2 := EqualP_q (ga ys 0) (delL n) (hr3.mono (Hp.le_un _ _)) hr4 S56.lend
       refine (wo_cq rfl rfl rfl rfl rfl rfl rfl cf20 S56 (Cq.cast (by simp only [e2]) (hcall2)) ?_)
       rintro _ w46 S57 rfl; clear S56
       refine LeftW.grow [_] (Hp.le_refl _) S57 ?_; clear S57
       change WA _ _ _ _ _ _ _ _ _ _ _ _ [_, _]
       refine wap 10 0 rfl (by kernel_rfl) rfl rfl rfl (fun w47 => run_pickT rfl rfl rfl) ?_
       refine wa_end (by kernel_rfl) (fun w48 S59 => ?_)
       refine nmk [2, 6, 7, 94] rfl (nm_thn ?_)
       refine ws_condN Normal__n110 Normal__n111 rfl rfl rfl rfl (fun hb94 => ?_) (fun hb94 => ?_)
       ·have hdl := nf_del hnf6 hst6 (by omega) (of_decide_eq_true hb94)
        refine ws_skip rfl (nmk [2, 6, 7] rfl (nm_thn (ws_blockN Normal__n112 11 rfl rfl rfl (ws_seqN Normal__n113 Normal__n114 rfl rfl rfl ?_))))
        refine ws_region rfl (wlm 0 1 rfl rfl rfl rfl rfl rfl rfl (wlo 1 2 rfl rfl rfl (wo_run rfl rfl (run_add rfl rfl rfl (by first | omega | (simp only [lens]; omega))) ?_)))
        refine wla 2 3 rfl rfl rfl rfl rfl rfl rfl (wl_end rfl (nmk [2, 6, 7] rfl (nm_thn (ws_region rfl ?_))))
        refine wlm 0 1 rfl rfl rfl rfl rfl rfl rfl (wlo 1 2 rfl rfl rfl (wo_sliceD (C := (cdV 38)) 1 rfl rfl rfl rfl rfl sl35 (by first | rfl | omega) (by first | omega | (simp only [lens]; omega)) h5 ?_))
        intro A6 c6 hr5
        have hd4 := hd5.drop_ 1
        refine wla 2 3 rfl rfl rfl rfl rfl rfl rfl (wl_end rfl (nm_blk (nm_lp ?_)))
        intro ax_ hax_
        refine ⟨_, ?hq13m, ⟨z5 + 1, A6, c6, vs5.drop 1, ys.drop 1, _, (hle18), rfl, hax_.sub ⟨rfl, rfl, rfl, trivial⟩, S59.pick [1] [_] (by decide) ⟨rfl, trivial⟩, ?hq13f0, ?hq13f1, ?hq13f2, ?hq13f3, ?hq13f4, ?hq13f5⟩⟩
        case hq13f0 => exact hr5
        case hq13f1 => exact hd4
        case hq13f2 => exact hdl.1
        case hq13f3 => exact hdl.2.1
        case hq13f4 => exact fun p hp => hid6 p (List.mem_of_mem_drop hp)
        case hq13f5 => (have h9 := hdl.2.2; omega)
        case hq13m => (have h9 := hdl.2.2; omega)
       ·refine ws_exit rfl rfl (nmk [6, 7] rfl (nm_thn (ws_seqN Normal__n115 Normal__n116 rfl rfl rfl (ws_region rfl ?_))))
        refine wlm 0 1 rfl rfl rfl rfl rfl rfl rfl (wlm 1 2 rfl rfl rfl rfl rfl rfl rfl (wla 2 3 rfl rfl rfl rfl rfl rfl rfl (wla 3 4 rfl rfl rfl rfl rfl rfl rfl (wl_end rfl ?_))))
        refine nmk [4, 5] rfl (nm_thn (ws_ret hC [_, _] rfl rfl ⟨rfl, rfl, trivial⟩ ?_))
        refine ⟨_, rfl, _, (hle16.trans hle17).trans hle18, (S59.pick [] [] (by decide) trivial), ?_⟩
        exact ⟨z5, _, _, _, ys, rfl, h5, hd5, ⟨hnf6, hst6, hid6, fun h0 => (by first | exact of_decide_eq_false hb94 | omega), by omega, by omega⟩⟩
      ·replace hg87 := of_decide_eq_false hg87
       refine wa_no (i := 4) (d := 88) 6 rfl (by kernel_rfl) (by kernel_rfl) (by kernel_rfl) ⟨_, _, _, rfl, rfl, rfl, rfl⟩ rfl rfl ?_
       refine wa_no (i := 5) (d := 89) 5 rfl (by kernel_rfl) (by kernel_rfl) (by kernel_rfl) ⟨_, _, _, rfl, rfl, rfl, rfl⟩ rfl rfl ?_
       refine wa_no (i := 6) (d := 90) 4 rfl (by kernel_rfl) (by kernel_rfl) (by kernel_rfl) ⟨_, _, _, rfl, rfl, rfl, rfl⟩ rfl rfl ?_
       refine wa_no (i := 7) (d := 91) 3 rfl (by kernel_rfl) (by kernel_rfl) (by kernel_rfl) ⟨_, _, _, rfl, rfl, rfl, rfl⟩ rfl rfl ?_
       refine wa_no (i := 8) (d := 92) 2 rfl (by kernel_rfl) (by kernel_rfl) (by kernel_rfl) ⟨_, _, _, rfl, rfl, rfl, rfl⟩ rfl rfl ?_
       refine wa_no (i := 9) (d := 93) 1 rfl (by kernel_rfl) (by kernel_rfl) (by kernel_rfl) ⟨_, _, _, rfl, rfl, rfl, rfl⟩ rfl rfl ?_
       refine wap 10 0 rfl (by kernel_rfl) rfl rfl rfl (fun w49 => run_pickF rfl rfl rfl) ?_
       refine wa_end (by kernel_rfl) (fun w50 S61 => ?_)
       refine nmk [2, 6, 7, 94] rfl (nm_thn (ws_condFN Normal__n111 rfl rfl rfl (ws_exit rfl rfl (nmk [6, 7] rfl ?_))))
       refine nm_thn (ws_seqN Normal__n115 Normal__n116 rfl rfl rfl (ws_region rfl (wlm 0 1 rfl rfl rfl rfl rfl rfl rfl (wlm 1 2 rfl rfl rfl rfl rfl rfl rfl ?_))))
       refine wla 2 3 rfl rfl rfl rfl rfl rfl rfl (wla 3 4 rfl rfl rfl rfl rfl rfl rfl (wl_end rfl (nmk [4, 5] rfl (nm_thn ?_))))
       refine ws_ret hC [_, _] rfl rfl ⟨rfl, rfl, trivial⟩ ?_
       refine ⟨_, rfl, _, (hle16.trans hle17).trans hle18, (S61.pick [] [] (by decide) trivial), ?_⟩
       exact ⟨z5, _, _, _, ys, rfl, h5, hd5, ⟨hnf6, hst6, hid6, fun h0 => (by first | exact of_decide_eq_false hb94 | omega), by omega, by omega⟩⟩
end Go.Proofs.Ytomcgmialkdcbaa
namespace Go.Proofs.Ytomcgmialkdcbaa
open Go.ChangeShapes Go.WideShapes Go.ChangeAt Go.RowKit
/-- No table on the way has a word that is too long. -/
def BdW (m : Nat) (l : List Int) : Prop := ∀ k, k ≤ l.length → ∀ i, i < m → (ga (actP m (l.take k)) i).length ≤ 5800000000000
def lok (m : Nat) (l : List Int) : Prop := ∀ i, i < l.length → 1 ≤ max (ga l i) (-(ga l i)) ∧ max (ga l i) (-(ga l i)) < (m : Int)
theorem lok.ok_ {m : Nat} {l : List Int} (hm : m ≤ 6) (h : lok m l) : ∀ k, k ≤ l.length → okA m (3 ^ k) (actP m (l.take k)) ∧ redA m (actP m (l.take k))
 | 0, _ => ⟨okA.unit m hm, redA.unit m⟩
 | k + 1, hk => by
  obtain ⟨a, b⟩ := lok.ok_ hm h k (by omega)
  rw [actP_take _ _ _ (by omega), Nat.pow_succ]
  exact ⟨a.step (h k (by omega)), b.step a.1 (h k (by omega))⟩
theorem BdW.short {m : Nat} {l : List Int} (hm : m ≤ 6) (h : lok m l) (h20 : l.length ≤ 20) : BdW m l := fun k hk i hi => by
 have h1 := ((h.ok_ hm k hk).1.2 i hi).2
 have h2 : 3 ^ k ≤ 3486784401 := Nat.le_trans (Nat.pow_le_pow_right (by omega) (show k ≤ 20 by omega)) (by decide)
 omega
noncomputable def ActOfB_n0 : Code := Try.f21.body.getD .skip
noncomputable def ActOfB_n1 : Code := cL ActOfB_n0
noncomputable def ActOfB_n2 : Code := cR ActOfB_n0
noncomputable def ActOfB_n3 : Code := cL ActOfB_n2
noncomputable def ActOfB_n4 : Code := cR ActOfB_n2
noncomputable def ActOfB_n5 : Code := cL ActOfB_n4
noncomputable def ActOfB_n6 : Code := cR ActOfB_n4
noncomputable def ActOfB_n7 : Code := cL ActOfB_n5
noncomputable def ActOfB_n8 : Code := cR ActOfB_n5
noncomputable def ActOfB_n9 : Code := cL ActOfB_n8
noncomputable def ActOfB_n10 : Code := cL ActOfB_n9
noncomputable def ActOfB_n11 : Code := cL ActOfB_n10
noncomputable def ActOfB_n12 : Code := cR ActOfB_n10
noncomputable def ActOfB_n13 : Code := cL ActOfB_n11
noncomputable def ActOfB_n14 : Code := cR ActOfB_n11
noncomputable def ActOfB_n15 : Code := cL ActOfB_n14
noncomputable def ActOfB_n16 : Code := cR ActOfB_n14
noncomputable def ActOfB_n17 : Code := cL ActOfB_n12
noncomputable def ActOfB_n18 : Code := cR ActOfB_n12
noncomputable def ActOfB_n19 : Code := cL ActOfB_n17
noncomputable def ActOfB_n20 : Code := cL ActOfB_n6
noncomputable def ActOfB_n21 : Code := cR ActOfB_n6
noncomputable def ActOfB_n22 : Code := cL ActOfB_n20
noncomputable def ActOfB_n23 : Code := cR ActOfB_n20
noncomputable def ActOfB_n24 : Code := cL ActOfB_n23
noncomputable def ActOfB_n25 : Code := cL ActOfB_n24
noncomputable def ActOfB_n26 : Code := cL ActOfB_n25
noncomputable def ActOfB_n27 : Code := cR ActOfB_n25
noncomputable def ActOfB_n28 : Code := cL ActOfB_n26
noncomputable def ActOfB_n29 : Code := cR ActOfB_n26
noncomputable def ActOfB_n30 : Code := cL ActOfB_n29
noncomputable def ActOfB_n31 : Code := cR ActOfB_n29
noncomputable def ActOfB_n32 : Code := cL ActOfB_n27
noncomputable def ActOfB_n33 : Code := cR ActOfB_n27
noncomputable def ActOfB_n34 : Code := cL ActOfB_n32
noncomputable def ActOfB_n35 : Code := cL ActOfB_n34
noncomputable def ActOfB_n36 : Code := cR ActOfB_n34
noncomputable def ActOfB_n37 : Code := cL ActOfB_n36
noncomputable def ActOfB_n38 : Code := cR ActOfB_n36
noncomputable def ActOfB_n39 : Code := cL ActOfB_n38
noncomputable def ActOfB_n40 : Code := cR ActOfB_n38
noncomputable def ActOfB_n41 : Code := cL ActOfB_n40
noncomputable def ActOfB_n42 : Code := cR ActOfB_n40
noncomputable def ActOfB_n43 : Code := cL ActOfB_n41
noncomputable def ActOfB_n44 : Code := cR ActOfB_n41
noncomputable def ActOfB_n45 : Code := cL ActOfB_n42
noncomputable def ActOfB_n46 : Code := cR ActOfB_n42
noncomputable def ActOfB_n47 : Code := cL ActOfB_n21
noncomputable def ActOfB_n48 : Code := cR ActOfB_n21
set_option maxRecDepth 10000 in
theorem ActOfB_t {w : World} {M : Hp} {X : Fr} (m : Nat) (l : List Int) {lA : Option Addr} {lc : Nat} (hl : RdA cdInt (M.un X.h) lA lc l) (hm : m ≤ 6) (hwl : l.length ≤ 1000) (hwb : lok m l) (hB : BdW m l) (S : SH w M X []) : Ct Try.prog 21 [.int .i64 (m : Int), .slice lA l.length lc] w M X (TabA (actP m l)) := by
 unfold Ct
 have rmhl : l.length * 8 ≤ 140737488355328 := hl.room
 refine calls_in (b := ActOfB_n0) Try.func21 rfl Try.ntmps21 rfl (fun C hC => (ws_sub [(0, _), (1, _)] ⟨rfl, rfl, trivial⟩ (ws_seqN ActOfB_n1 ActOfB_n2 rfl rfl rfl (ws_region rfl (wla 0 1 rfl rfl rfl rfl rfl rfl rfl ?_)))))
 refine wl_end rfl (nmk [0, 1] rfl (nm_thn (ws_seqN ActOfB_n3 ActOfB_n4 rfl rfl rfl (ws_region rfl ?_))))
 refine wla 0 1 rfl rfl rfl rfl rfl rfl rfl (wl_end rfl (nm_thn (ws_seqN ActOfB_n5 ActOfB_n6 rfl rfl rfl (ws_seqN ActOfB_n7 ActOfB_n8 rfl rfl rfl ?_))))
 refine ws_region rfl (wla 0 1 rfl rfl rfl rfl rfl rfl rfl (wl_end rfl (nm_thn (ws_blockN ActOfB_n9 0 rfl rfl rfl ?_))))
 have S1 := S.nilrow (cdV 22); clear S
 refine ws_loopE (fun mx_ ax_ wx_ => ∃ (k : Nat) (tv : List SlV) (tb : List (List Int)) (vro : Value) (M1 : Hp), M.le M1 ∧ mx_ = m - k ∧ Env 75 [(0, .int .i64 (m : Int)), (1, .slice lA l.length lc), (5, vro), (6, .int .i64 ((k : Int) + 1))] ax_ ∧ SH wx_ M1 X [Rs.row (cdV 22) vro tv] ∧ k ≤ m ∧ tb = (unitA m).take k ∧ Rd2 cdInt M1 tv tb) rfl ?_ ?_
 ·intro ax_ hax_
  refine ⟨_, ⟨0, _, [], _, _, Hp.le_refl _, rfl, hax_.sub ⟨rfl, rfl, rfl, rfl, trivial⟩, S1.pick [0] [_] (by decide) ⟨rfl, trivial⟩, ?hq1f0, ?hq1f1, ?hq1f2⟩⟩
  case hq1f0 => omega
  case hq1f1 => rfl
  case hq1f2 => exact Rd2.nil_
 ·rintro m1 a1 w1 ⟨k, tv, tb, vro, M1, hle1, rfl, he1, S2, hk, htb, hdt⟩
  clear S1
  refine ws_in he1 (c := ActOfB_n10) rfl ?_
  clear he1 a1
  replace hl := hl.mono (Hp.un_mono hle1 S2.mx)
  have htl := hdt.1
  have htk : tb.length = k := by rw [htb]; simp [unitA]; omega
  refine ws_seqN ActOfB_n11 ActOfB_n12 rfl rfl rfl (ws_seqN ActOfB_n13 ActOfB_n14 rfl rfl rfl (ws_region rfl (wlm 0 1 rfl rfl rfl rfl rfl rfl rfl (wlm 1 2 rfl rfl rfl rfl rfl rfl rfl ?_))))
  refine wlo 2 3 rfl rfl rfl (wo_run rfl rfl (run_leq rfl rfl rfl) (wl_end rfl (nmk [0, 1, 5, 6, 13] rfl (nm_thn ?_))))
  refine ws_condN ActOfB_n15 ActOfB_n16 rfl rfl rfl rfl (fun hb13 => ?_) (fun hb13 => ?_)
  ·replace hb13 := of_decide_eq_true hb13
   refine ws_skip rfl (nmk [0, 1, 5, 6] rfl (nm_thn (ws_seqN ActOfB_n17 ActOfB_n18 rfl rfl rfl (ws_blockN ActOfB_n19 1 rfl rfl rfl ?_))))
   refine ws_region rfl (wlm 0 1 rfl rfl rfl rfl rfl rfl rfl (wlm 1 2 rfl rfl rfl rfl rfl rfl rfl (wlo 2 3 rfl rfl rfl (wo_buildSlice1 (C := cdInt) (l := [_]) rfl rfl rfl rfl sl22 rfl rfl rfl rfl S2 ?_))))
   intro gb1 w2 S3; clear S2
   obtain ⟨M2, hle2, S4, hr1⟩ := S3.pubbox (C := cdInt) (z := ((k : Int) + 1)) (i := 0) (H' := [_, _]) rfl rfl rfl (by decide)
   clear S3
   replace hl := hl.mono (Hp.un_mono hle2 S4.mx)
   replace hdt := hdt.mono hle2
   refine wlo 3 4 rfl rfl rfl (wo_buildSlice1 (C := (cdV 22)) (l := [_]) rfl rfl rfl rfl sl23 rfl rfl rfl rfl S4 ?_)
   intro gb2 w3 S5; clear S4
   refine wlo 4 5 rfl rfl rfl (wo_append1 (C := (cdV 22)) (i := 2) (q := 0) (⟨(some ⟨gb1, 0, none⟩), ([((k : Int) + 1)]).length, 1⟩ : SlV) rfl rfl rfl rfl rfl rfl rfl rfl sl23 S5 rfl rfl rfl (by show (_ + 1) * 24 ≤ _; first | omega | (simp only [lens]; omega)) ?_)
   intro vro1 w4 S6; clear S5
   have S7 := S6.pick [1, 2] [_, _] (by decide) ⟨rfl, rfl, trivial⟩; clear S6
   have hd1 := hdt.snoc (c := 1) hr1
   refine wla 5 6 rfl rfl rfl rfl rfl rfl rfl (wl_end rfl (nm_blk (nmk [0, 1, 5, 6] rfl (nm_thn ?_))))
   refine ws_region rfl (wlm 0 1 rfl rfl rfl rfl rfl rfl rfl (wlo 1 2 rfl rfl rfl (wo_run rfl rfl (run_add rfl rfl rfl (by first | omega | (simp only [lens]; omega))) ?_)))
   refine wla 2 3 rfl rfl rfl rfl rfl rfl rfl (wl_end rfl (nm_lp ?_))
   intro ax_ hax_
   refine ⟨_, ?hq2m, ⟨k + 1, _, (tb ++ [[((k : Int) + 1)]]), _, _, (hle1.trans hle2), rfl, hax_.sub ⟨rfl, rfl, rfl, rfl, trivial⟩, S7.pick [1] [_] (by decide) ⟨rfl, trivial⟩, ?hq2f0, ?hq2f1, ?hq2f2⟩⟩
   case hq2f0 => omega
   case hq2f1 => (rw [htb]; exact unitA_take _ _ (by omega))
   case hq2f2 => exact hd1
   case hq2m => omega
  ·replace hb13 := of_decide_eq_false hb13
   refine ws_exit rfl rfl (nmk [1, 5] rfl (nm_thn (ws_seqN ActOfB_n20 ActOfB_n21 rfl rfl rfl (ws_seqN ActOfB_n22 ActOfB_n23 rfl rfl rfl ?_))))
   refine ws_region rfl (wla 0 1 rfl rfl rfl rfl rfl rfl rfl (wl_end rfl (nm_thn (ws_blockN ActOfB_n24 2 rfl rfl rfl ?_))))
   refine ws_loopE (fun mx_ ax_ wx_ => ∃ (k2 : Nat) (b2 : Nat) (tv2 : List SlV) (tb2 : List (List Int)) (vrp : Value) (M3 : Hp), M1.le M3 ∧ mx_ = l.length - k2 ∧ Env 75 [(1, .slice lA l.length lc), (5, vrp), (7, .int .i64 (k2 : Int))] ax_ ∧ SH wx_ M3 X [Rs.row (cdV 22) vrp tv2] ∧ k2 ≤ l.length ∧ tb2 = actP m (l.take k2) ∧ okA m b2 tb2 ∧ redA m tb2 ∧ Rd2 cdInt M3 tv2 tb2) rfl ?_ ?_
   ·intro ax_ hax_
    refine ⟨_, ⟨0, 1, _, tb, _, _, Hp.le_refl _, rfl, hax_.sub ⟨rfl, rfl, rfl, trivial⟩, S2.pick [0] [_] (by decide) ⟨rfl, trivial⟩, ?hq3f0, ?hq3f1, ?hq3f2, ?hq3f3, ?hq3f4⟩⟩
    case hq3f0 => omega
    case hq3f1 => (rw [htb, show k = m by omega]; show _ = unitA m; exact List.take_of_length_le (by simp [unitA]))
    case hq3f2 => (rw [htb, show k = m by omega, List.take_of_length_le (by simp [unitA])]; exact okA.unit m (by omega))
    case hq3f3 => (rw [htb, show k = m by omega, List.take_of_length_le (by simp [unitA])]; exact redA.unit m)
    case hq3f4 => exact hdt
   ·rintro m2 a2 w5 ⟨k2, b2, tv2, tb2, vrp, M3, hle3, rfl, he2, S8, hk2, hact, hok, hred, hdt2⟩
    clear S2
    refine ws_in he2 (c := ActOfB_n25) rfl ?_
    clear he2 a2
    replace hl := hl.mono (Hp.un_mono hle3 S8.mx)
    replace hdt := hdt.mono hle3
    have htl2 := hdt2.1
    have hl2 := hok.1
    have hwk := fun h => hwb k2 h
    have hbd : ∀ i, i < m → (ga tb2 i).length ≤ 5800000000000 := by rw [hact]; exact hB k2 hk2
    refine ws_seqN ActOfB_n26 ActOfB_n27 rfl rfl rfl (ws_seqN ActOfB_n28 ActOfB_n29 rfl rfl rfl (ws_region rfl (wlm 0 1 rfl rfl rfl rfl rfl rfl rfl (wlm 1 2 rfl rfl rfl rfl rfl rfl rfl ?_))))
    refine wlo 2 3 rfl rfl rfl (wo_run rfl rfl (run_len rfl rfl rfl rfl rfl rfl Try.underlying22) (wlo 3 4 rfl rfl rfl (wo_run rfl rfl (run_lss rfl rfl rfl) (wl_end rfl (nmk [1, 5, 7, 24] rfl (nm_thn ?_))))))
    refine ws_condN ActOfB_n30 ActOfB_n31 rfl rfl rfl rfl (fun hb24 => ?_) (fun hb24 => ?_)
    ·replace hb24 := of_decide_eq_true hb24
     refine ws_skip rfl (nmk [1, 5, 7] rfl (nm_thn (ws_seqN ActOfB_n32 ActOfB_n33 rfl rfl rfl (ws_blockN ActOfB_n34 3 rfl rfl rfl ?_))))
     refine ws_seqN ActOfB_n35 ActOfB_n36 rfl rfl rfl (ws_region rfl (wlm 0 1 rfl rfl rfl rfl rfl rfl rfl (wlm 1 2 rfl rfl rfl rfl rfl rfl rfl (wlo 2 3 rfl rfl rfl (wo_run rfl rfl (run_indexM (C := cdInt) k2 rfl rfl rfl sl22 (by first | rfl | omega) hl (by first | omega | (simp only [lens]; omega))) ?_)))))
     refine wlo 3 4 rfl rfl rfl (wo_run rfl rfl (run_load1 rfl rfl Try.underlying3 rfl (hl.cell S8.um (i := k2) (by first | omega | (simp only [lens]; omega)) 0 rfl rfl)) ?_)
     refine wlo 4 5 rfl rfl rfl (wo_cq rfl rfl rfl rfl rfl rfl rfl cf15 S8 (abs_q (ga l k2) (by omega) S8.lend) ?_)
     rintro _ w6 S9 rfl; clear S8
     refine wla 5 6 rfl rfl rfl rfl rfl rfl rfl (wl_end rfl (nmk [1, 5, 7, 8] rfl (nm_thn (ws_seqN ActOfB_n37 ActOfB_n38 rfl rfl rfl ?_))))
     refine ws_eq 8 (.int .i64 (((max (ga l k2) (-(ga l k2)) - 1).toNat + 1 : Nat) : Int)) rfl (int_eq (by omega)) ?_
     have hia := hok.2 (max (ga l k2) (-(ga l k2)) - 1).toNat (by omega)
     have hib := hok.2 ((max (ga l k2) (-(ga l k2)) - 1).toNat + 1) (by omega)
     have hia9 := hred (max (ga l k2) (-(ga l k2)) - 1).toNat (by omega)
     have hib9 := (hred ((max (ga l k2) (-(ga l k2)) - 1).toNat + 1) (by omega)).inv_
     have hla := hbd (max (ga l k2) (-(ga l k2)) - 1).toNat (by omega)
     have hlb := hbd ((max (ga l k2) (-(ga l k2)) - 1).toNat + 1) (by omega)
     refine ws_draw rfl (by kernel_rfl) S9 11 rfl ?_
     clear S9
     refine wap 0 10 rfl (by kernel_rfl) rfl rfl rfl (fun w7 => run_move rfl rfl) ?_
     refine wap 1 9 rfl (by kernel_rfl) rfl rfl rfl (fun w8 => run_move rfl rfl) ?_
     refine wap 2 8 rfl (by kernel_rfl) rfl rfl rfl (fun w9 => run_sub rfl rfl rfl (by first | omega | (simp only [lens]; omega))) ?_
     refine wat 3 7 rfl (by kernel_rfl) rfl rfl rfl (fun M7 N4 w10 hle7 S13 => .inl (run_indexR (C := (cdV 22)) (i := 0) ((max (ga l k2) (-(ga l k2)) - 1).toNat) rfl rfl rfl sl23 S13.suf rfl (by first | rfl | omega) (by first | omega | (simp only [lens]; omega)))) ?_
     obtain ⟨hn1, hr2⟩ := hdt2.2 ((max (ga l k2) (-(ga l k2)) - 1).toNat) (by first | omega | (simp only [lens]; omega))
     refine wat 4 6 rfl (by kernel_rfl) rfl rfl rfl (fun M8 N5 w11 hle8 S14 => .inl (run_load1 rfl rfl Try.underlying22 rfl (S14.suf.rowc (i := 0) (e := (max (ga l k2) (-(ga l k2)) - 1).toNat) (j := 0) rfl (by first | omega | (simp only [lens]; omega)) rfl (congrArg (fun n => some (Value.slice _ n _)) hn1)))) ?_
     refine wap 5 5 rfl (by kernel_rfl) rfl rfl rfl (fun w12 => run_move rfl rfl) ?_
     refine wap 6 4 rfl (by kernel_rfl) rfl rfl rfl (fun w13 => run_move rfl rfl) ?_
     refine wat 7 3 rfl (by kernel_rfl) rfl rfl rfl (fun M11 N8 w14 hle11 S17 => .inl (run_indexR (C := (cdV 22)) (i := 0) ((max (ga l k2) (-(ga l k2)) - 1).toNat + 1) rfl rfl rfl sl23 S17.suf rfl (by first | rfl | omega) (by first | omega | (simp only [lens]; omega)))) ?_
     obtain ⟨hn2, hr3⟩ := hdt2.2 ((max (ga l k2) (-(ga l k2)) - 1).toNat + 1) (by first | omega | (simp only [lens]; omega))
     refine wat 8 2 rfl (by kernel_rfl) rfl rfl rfl (fun M12 N9 w15 hle12 S18 => .inl (run_load1 rfl rfl Try.underlying22 rfl (S18.suf.rowc (i := 0) (e := (max (ga l k2) (-(ga l k2)) - 1).toNat + 1) (j := 0) rfl (by first | omega | (simp only [lens]; omega)) rfl (congrArg (fun n => some (Value.slice _ n _)) hn2)))) ?_
     refine wap 9 1 rfl (by kernel_rfl) rfl rfl rfl (fun w16 => run_assign rfl rfl) ?_
     refine wap 10 0 rfl (by kernel_rfl) rfl rfl rfl (fun w17 => run_assign rfl rfl) ?_
     refine wa_end (by kernel_rfl) (fun w18 S21 => ?_)
     refine nmk [1, 5, 7, 8, 9, 10] rfl (nm_thn (ws_seqN ActOfB_n39 ActOfB_n40 rfl rfl rfl (ws_region rfl (wlm 0 1 rfl rfl rfl rfl rfl rfl rfl ?_))))
     refine wlm 1 2 rfl rfl rfl rfl rfl rfl rfl (wlo 2 3 rfl rfl rfl (wo_run rfl rfl (run_indexM (C := cdInt) k2 rfl rfl rfl sl22 (by first | rfl | omega) hl (by first | omega | (simp only [lens]; omega))) ?_))
     refine wlo 3 4 rfl rfl rfl (wo_run rfl rfl (run_load1 rfl rfl Try.underlying3 rfl (hl.cell S21.um (i := k2) (by first | omega | (simp only [lens]; omega)) 0 rfl rfl)) ?_)
     refine wlo 4 5 rfl rfl rfl (wo_run rfl rfl (run_gtr rfl rfl rfl) (wl_end rfl (nmk [1, 5, 7, 8, 9, 10, 45] rfl (nm_thn ?_))))
     refine ws_condN ActOfB_n41 ActOfB_n42 rfl rfl rfl rfl (fun hb45 => ?_) (fun hb45 => ?_)
     ·replace hb45 := of_decide_eq_true hb45
      refine ws_seqN ActOfB_n43 ActOfB_n44 rfl rfl rfl (ws_region rfl (wlm 0 1 rfl rfl rfl rfl rfl rfl rfl (wlm 1 2 rfl rfl rfl rfl rfl rfl rfl (wlo 2 3 rfl rfl rfl (wo_run rfl rfl (run_sub rfl rfl rfl (by first | omega | (simp only [lens]; omega))) ?_)))))
      refine wlm 3 4 rfl rfl rfl rfl rfl rfl rfl (wlm 4 5 rfl rfl rfl rfl rfl rfl rfl (wlo 5 6 rfl rfl rfl (wo_ct rfl rfl rfl rfl rfl rfl rfl cf32 S21 (glue_t (ga tb2 ((max (ga l k2) (-(ga l k2)) - 1).toNat)) (ga tb2 ((max (ga l k2) (-(ga l k2)) - 1).toNat + 1)) (hr2.mono (Hp.le_un _ _)) (hr3.mono (Hp.le_un _ _)) ((by first | exact hia.1 | exact hib.1 | exact hia.1.inv_ | exact hib.1.inv_ | exact hia.1.glu_ hib.1 | exact hib.1.inv_.glu_ hia.1)) ((by first | exact hia.1 | exact hib.1 | exact hia.1.inv_ | exact hib.1.inv_ | exact hia.1.glu_ hib.1 | exact hib.1.inv_.glu_ hia.1)) ((by have g1 := gluW_len (ga tb2 (max (ga l k2) (-(ga l k2)) - 1).toNat) (ga tb2 ((max (ga l k2) (-(ga l k2)) - 1).toNat + 1)); have g2 := gluW_len (invW (ga tb2 ((max (ga l k2) (-(ga l k2)) - 1).toNat + 1))) (ga tb2 (max (ga l k2) (-(ga l k2)) - 1).toNat); have i1 := invW_len (ga tb2 (max (ga l k2) (-(ga l k2)) - 1).toNat); have i2 := invW_len (ga tb2 ((max (ga l k2) (-(ga l k2)) - 1).toNat + 1)); omega)) S21.lend) ?_)))
      intro vw19 w19 M15 hle15 S22 hRw19; clear S21
      replace hl := hl.mono (Hp.un_mono hle15 S22.mx)
      replace hdt := hdt.mono hle15
      replace hdt2 := hdt2.mono hle15
      replace hr2 := hr2.mono hle15
      replace hr3 := hr3.mono hle15
      obtain ⟨A1, c1, rfl, hr4⟩ := hRw19
      refine wlm 6 7 rfl rfl rfl rfl rfl rfl rfl (wlo 7 8 rfl rfl rfl (wo_ct rfl rfl rfl rfl rfl rfl rfl cf16 S22 (recip_t (ga tb2 ((max (ga l k2) (-(ga l k2)) - 1).toNat)) (hr2.mono (Hp.le_un _ _)) ((hok.2 _ (by omega)).1) S22.lend) ?_))
      intro vw20 w20 M16 hle16 S23 hRw20; clear S22
      replace hl := hl.mono (Hp.un_mono hle16 S23.mx)
      replace hdt := hdt.mono hle16
      replace hdt2 := hdt2.mono hle16
      replace hr2 := hr2.mono hle16
      replace hr3 := hr3.mono hle16
      replace hr4 := hr4.mono hle16
      obtain ⟨A2, c2, rfl, hr5⟩ := hRw20
      refine wlo 8 9 rfl rfl rfl (wo_ct rfl rfl rfl rfl rfl rfl rfl cf32 S23 (glue_t (gluW (ga tb2 ((max (ga l k2) (-(ga l k2)) - 1).toNat)) (ga tb2 ((max (ga l k2) (-(ga l k2)) - 1).toNat + 1))) (invW (ga tb2 ((max (ga l k2) (-(ga l k2)) - 1).toNat))) (hr4.mono (Hp.le_un _ _)) (hr5.mono (Hp.le_un _ _)) ((by first | exact hia.1 | exact hib.1 | exact hia.1.inv_ | exact hib.1.inv_ | exact hia.1.glu_ hib.1 | exact hib.1.inv_.glu_ hia.1)) ((by first | exact hia.1 | exact hib.1 | exact hia.1.inv_ | exact hib.1.inv_ | exact hia.1.glu_ hib.1 | exact hib.1.inv_.glu_ hia.1)) ((by have g1 := gluW_len (ga tb2 (max (ga l k2) (-(ga l k2)) - 1).toNat) (ga tb2 ((max (ga l k2) (-(ga l k2)) - 1).toNat + 1)); have g2 := gluW_len (invW (ga tb2 ((max (ga l k2) (-(ga l k2)) - 1).toNat + 1))) (ga tb2 (max (ga l k2) (-(ga l k2)) - 1).toNat); have i1 := invW_len (ga tb2 (max (ga l k2) (-(ga l k2)) - 1).toNat); have i2 := invW_len (ga tb2 ((max (ga l k2) (-(ga l k2)) - 1).toNat + 1)); omega)) S23.lend) ?_)
      intro vw21 w21 M17 hle17 S24 hRw21; clear S23
      replace hl := hl.mono (Hp.un_mono hle17 S24.mx)
      replace hdt := hdt.mono hle17
      replace hdt2 := hdt2.mono hle17
      replace hr2 := hr2.mono hle17
      replace hr3 := hr3.mono hle17
      replace hr4 := hr4.mono hle17
      replace hr5 := hr5.mono hle17
      obtain ⟨A3, c3, rfl, hr6⟩ := hRw21
      refine wlo 9 10 rfl rfl rfl (wo_run rfl rfl (run_indexR (C := (cdV 22)) (i := 0) ((max (ga l k2) (-(ga l k2)) - 1).toNat) rfl rfl rfl sl23 S24 rfl (by first | rfl | omega) (by first | omega | (simp only [lens]; omega))) ?_)
      refine wlo 10 11 rfl rfl rfl (wo_storeR (C := (cdV 22)) (i := 0) (e := (max (ga l k2) (-(ga l k2)) - 1).toNat) (j := 0) (us := [_]) (H' := [_]) (⟨A3, (gluW (gluW (ga tb2 ((max (ga l k2) (-(ga l k2)) - 1).toNat)) (ga tb2 ((max (ga l k2) (-(ga l k2)) - 1).toNat + 1))) (invW (ga tb2 ((max (ga l k2) (-(ga l k2)) - 1).toNat)))).length, c3⟩ : SlV) rfl rfl S24 rfl (by first | omega | (simp only [lens]; omega)) rfl rfl rfl sz22 rfl rfl rfl rfl ?_)
      intro w22 S25; clear S24
      have hd2 := hdt2.set_ hr6 ((max (ga l k2) (-(ga l k2)) - 1).toNat) (by first | omega | (simp only [lens]; omega))
      refine wl_end rfl (nmk [1, 5, 7, 8, 9] rfl (nm_thn (ws_region rfl (wlm 0 1 rfl rfl rfl rfl rfl rfl rfl ?_))))
      refine wlm 1 2 rfl rfl rfl rfl rfl rfl rfl (wlm 2 3 rfl rfl rfl rfl rfl rfl rfl (wlo 3 4 rfl rfl rfl (wo_run rfl rfl (run_indexR (C := (cdV 22)) (i := 0) ((max (ga l k2) (-(ga l k2)) - 1).toNat + 1) rfl rfl rfl sl23 S25 rfl (by first | rfl | omega) (by first | omega | (simp only [lens]; omega))) ?_)))
      refine wlo 4 5 rfl rfl rfl (wo_storeR (C := (cdV 22)) (i := 0) (e := (max (ga l k2) (-(ga l k2)) - 1).toNat + 1) (j := 0) (us := [_]) (H' := [_]) (⟨(ga tv2 ((max (ga l k2) (-(ga l k2)) - 1).toNat)).A, (ga tb2 ((max (ga l k2) (-(ga l k2)) - 1).toNat)).length, (ga tv2 ((max (ga l k2) (-(ga l k2)) - 1).toNat)).c⟩ : SlV) rfl rfl S25 rfl (by first | omega | (simp only [lens]; omega)) rfl rfl rfl sz22 rfl rfl rfl rfl ?_)
      intro w23 S26; clear S25
      have hd3 := hd2.set_ hr2 ((max (ga l k2) (-(ga l k2)) - 1).toNat + 1) (by first | omega | (simp only [lens]; omega))
      refine wl_end rfl (nm_blk (nmk [1, 5, 7] rfl (nm_thn (ws_region rfl ?_))))
      refine wlm 0 1 rfl rfl rfl rfl rfl rfl rfl (wlo 1 2 rfl rfl rfl (wo_run rfl rfl (run_add rfl rfl rfl (by first | omega | (simp only [lens]; omega))) ?_))
      refine wla 2 3 rfl rfl rfl rfl rfl rfl rfl (wl_end rfl (nm_lp ?_))
      intro ax_ hax_
      refine ⟨_, ?hq4m, ⟨k2 + 1, b2 * 3, _, ((tb2.set ((max (ga l k2) (-(ga l k2)) - 1).toNat) (gluW (gluW (ga tb2 ((max (ga l k2) (-(ga l k2)) - 1).toNat)) (ga tb2 ((max (ga l k2) (-(ga l k2)) - 1).toNat + 1))) (invW (ga tb2 ((max (ga l k2) (-(ga l k2)) - 1).toNat))))).set ((max (ga l k2) (-(ga l k2)) - 1).toNat + 1) (ga tb2 ((max (ga l k2) (-(ga l k2)) - 1).toNat))), _, _, (((hle3.trans hle15).trans hle16).trans hle17), rfl, hax_.sub ⟨rfl, rfl, rfl, trivial⟩, S26.pick [0] [_] (by decide) ⟨rfl, trivial⟩, ?hq4f0, ?hq4f1, ?hq4f2, ?hq4f3, ?hq4f4⟩⟩
      case hq4f0 => omega
      case hq4f1 => (rw [actP_take _ _ _ (by omega), ← hact]; first | exact stepA_p hia9 (by omega) | exact stepA_n hib9 (by omega))
      case hq4f2 => (first | (rw [stepA_p hia9 (by omega)]; exact hok.step (hwb k2 (by omega))) | (rw [stepA_n hib9 (by omega)]; exact hok.step (hwb k2 (by omega))))
      case hq4f3 => (first | (rw [stepA_p hia9 (by omega)]; exact hred.step hok.1 (hwb k2 (by omega))) | (rw [stepA_n hib9 (by omega)]; exact hred.step hok.1 (hwb k2 (by omega))))
      case hq4f4 => exact hd3
      case hq4m => omega
     ·replace hb45 := of_decide_eq_false hb45
      refine ws_seqN ActOfB_n45 ActOfB_n46 rfl rfl rfl (ws_region rfl (wlm 0 1 rfl rfl rfl rfl rfl rfl rfl (wlm 1 2 rfl rfl rfl rfl rfl rfl rfl (wlo 2 3 rfl rfl rfl (wo_run rfl rfl (run_sub rfl rfl rfl (by first | omega | (simp only [lens]; omega))) ?_)))))
      refine wlm 3 4 rfl rfl rfl rfl rfl rfl rfl (wlo 4 5 rfl rfl rfl (wo_run rfl rfl (run_indexR (C := (cdV 22)) (i := 0) ((max (ga l k2) (-(ga l k2)) - 1).toNat) rfl rfl rfl sl23 S21 rfl (by first | rfl | omega) (by first | omega | (simp only [lens]; omega))) ?_))
      refine wlo 5 6 rfl rfl rfl (wo_storeR (C := (cdV 22)) (i := 0) (e := (max (ga l k2) (-(ga l k2)) - 1).toNat) (j := 0) (us := [_]) (H' := [_]) (⟨(ga tv2 ((max (ga l k2) (-(ga l k2)) - 1).toNat + 1)).A, (ga tb2 ((max (ga l k2) (-(ga l k2)) - 1).toNat + 1)).length, (ga tv2 ((max (ga l k2) (-(ga l k2)) - 1).toNat + 1)).c⟩ : SlV) rfl rfl S21 rfl (by first | omega | (simp only [lens]; omega)) rfl rfl rfl sz22 rfl rfl rfl rfl ?_)
      intro w24 S27; clear S21
      have hd4 := hdt2.set_ hr3 ((max (ga l k2) (-(ga l k2)) - 1).toNat) (by first | omega | (simp only [lens]; omega))
      refine wl_end rfl (nmk [1, 5, 7, 8, 9, 10] rfl (nm_thn (ws_region rfl (wlm 0 1 rfl rfl rfl rfl rfl rfl rfl ?_))))
      refine wlm 1 2 rfl rfl rfl rfl rfl rfl rfl (wlm 2 3 rfl rfl rfl rfl rfl rfl rfl (wlo 3 4 rfl rfl rfl (wo_ct rfl rfl rfl rfl rfl rfl rfl cf16 S27 (recip_t (ga tb2 ((max (ga l k2) (-(ga l k2)) - 1).toNat + 1)) (hr3.mono (Hp.le_un _ _)) ((hok.2 _ (by omega)).1) S27.lend) ?_)))
      intro vw25 w25 M18 hle18 S28 hRw25; clear S27
      replace hl := hl.mono (Hp.un_mono hle18 S28.mx)
      replace hdt := hdt.mono hle18
      replace hdt2 := hdt2.mono hle18
      replace hr2 := hr2.mono hle18
      replace hr3 := hr3.mono hle18
      replace hd4 := hd4.mono hle18
      obtain ⟨A4, c4, rfl, hr7⟩ := hRw25
      refine wlm 4 5 rfl rfl rfl rfl rfl rfl rfl (wlo 5 6 rfl rfl rfl (wo_ct rfl rfl rfl rfl rfl rfl rfl cf32 S28 (glue_t (invW (ga tb2 ((max (ga l k2) (-(ga l k2)) - 1).toNat + 1))) (ga tb2 ((max (ga l k2) (-(ga l k2)) - 1).toNat)) (hr7.mono (Hp.le_un _ _)) (hr2.mono (Hp.le_un _ _)) ((by first | exact hia.1 | exact hib.1 | exact hia.1.inv_ | exact hib.1.inv_ | exact hia.1.glu_ hib.1 | exact hib.1.inv_.glu_ hia.1)) ((by first | exact hia.1 | exact hib.1 | exact hia.1.inv_ | exact hib.1.inv_ | exact hia.1.glu_ hib.1 | exact hib.1.inv_.glu_ hia.1)) ((by have g1 := gluW_len (ga tb2 (max (ga l k2) (-(ga l k2)) - 1).toNat) (ga tb2 ((max (ga l k2) (-(ga l k2)) - 1).toNat + 1)); have g2 := gluW_len (invW (ga tb2 ((max (ga l k2) (-(ga l k2)) - 1).toNat + 1))) (ga tb2 (max (ga l k2) (-(ga l k2)) - 1).toNat); have i1 := invW_len (ga tb2 (max (ga l k2) (-(ga l k2)) - 1).toNat); have i2 := invW_len (ga tb2 ((max (ga l k2) (-(ga l k2)) - 1).toNat + 1)); omega)) S28.lend) ?_))
      intro vw26 w26 M19 hle19 S29 hRw26; clear S28
      replace hl := hl.mono (Hp.un_mono hle19 S29.mx)
      replace hdt := hdt.mono hle19
      replace hdt2 := hdt2.mono hle19
      replace hr2 := hr2.mono hle19
      replace hr3 := hr3.mono hle19
      replace hd4 := hd4.mono hle19
      replace hr7 := hr7.mono hle19
      obtain ⟨A5, c5, rfl, hr8⟩ := hRw26
      refine wlm 6 7 rfl rfl rfl rfl rfl rfl rfl (wlo 7 8 rfl rfl rfl (wo_ct rfl rfl rfl rfl rfl rfl rfl cf32 S29 (glue_t (gluW (invW (ga tb2 ((max (ga l k2) (-(ga l k2)) - 1).toNat + 1))) (ga tb2 ((max (ga l k2) (-(ga l k2)) - 1).toNat))) (ga tb2 ((max (ga l k2) (-(ga l k2)) - 1).toNat + 1)) (hr8.mono (Hp.le_un _ _)) (hr3.mono (Hp.le_un _ _)) ((by first | exact hia.1 | exact hib.1 | exact hia.1.inv_ | exact hib.1.inv_ | exact hia.1.glu_ hib.1 | exact hib.1.inv_.glu_ hia.1)) ((by first | exact hia.1 | exact hib.1 | exact hia.1.inv_ | exact hib.1.inv_ | exact hia.1.glu_ hib.1 | exact hib.1.inv_.glu_ hia.1)) ((by have g1 := gluW_len (ga tb2 (max (ga l k2) (-(ga l k2)) - 1).toNat) (ga tb2 ((max (ga l k2) (-(ga l k2)) - 1).toNat + 1)); have g2 := gluW_len (invW (ga tb2 ((max (ga l k2) (-(ga l k2)) - 1).toNat + 1))) (ga tb2 (max (ga l k2) (-(ga l k2)) - 1).toNat); have i1 := invW_len (ga tb2 (max (ga l k2) (-(ga l k2)) - 1).toNat); have i2 := invW_len (ga tb2 ((max (ga l k2) (-(ga l k2)) - 1).toNat + 1)); omega)) S29.lend) ?_))
      intro vw27 w27 M20 hle20 S30 hRw27; clear S29
      replace hl := hl.mono (Hp.un_mono hle20 S30.mx)
      replace hdt := hdt.mono hle20
      replace hdt2 := hdt2.mono hle20
      replace hr2 := hr2.mono hle20
      replace hr3 := hr3.mono hle20
      replace hd4 := hd4.mono hle20
      replace hr7 := hr7.mono hle20
      replace hr8 := hr8.mono hle20
      obtain ⟨A6, c6, rfl, hr9⟩ := hRw27
      refine wlo 8 9 rfl rfl rfl (wo_run rfl rfl (run_indexR (C := (cdV 22)) (i := 0) ((max (ga l k2) (-(ga l k2)) - 1).toNat + 1) rfl rfl rfl sl23 S30 rfl (by first | rfl | omega) (by first | omega | (simp only [lens]; omega))) ?_)
      refine wlo 9 10 rfl rfl rfl (wo_storeR (C := (cdV 22)) (i := 0) (e := (max (ga l k2) (-(ga l k2)) - 1).toNat + 1) (j := 0) (us := [_]) (H' := [_]) (⟨A6, (gluW (gluW (invW (ga tb2 ((max (ga l k2) (-(ga l k2)) - 1).toNat + 1))) (ga tb2 ((max (ga l k2) (-(ga l k2)) - 1).toNat))) (ga tb2 ((max (ga l k2) (-(ga l k2)) - 1).toNat + 1))).length, c6⟩ : SlV) rfl rfl S30 rfl (by first | omega | (simp only [lens]; omega)) rfl rfl rfl sz22 rfl rfl rfl rfl ?_)
      intro w28 S31; clear S30
      have hd5 := hd4.set_ hr9 ((max (ga l k2) (-(ga l k2)) - 1).toNat + 1) (by first | omega | (simp only [lens]; omega))
      refine wl_end rfl (nm_blk (nmk [1, 5, 7] rfl (nm_thn (ws_region rfl ?_))))
      refine wlm 0 1 rfl rfl rfl rfl rfl rfl rfl (wlo 1 2 rfl rfl rfl (wo_run rfl rfl (run_add rfl rfl rfl (by first | omega | (simp only [lens]; omega))) ?_))
      refine wla 2 3 rfl rfl rfl rfl rfl rfl rfl (wl_end rfl (nm_lp ?_))
      intro ax_ hax_
      refine ⟨_, ?hq5m, ⟨k2 + 1, b2 * 3, _, ((tb2.set ((max (ga l k2) (-(ga l k2)) - 1).toNat) (ga tb2 ((max (ga l k2) (-(ga l k2)) - 1).toNat + 1))).set ((max (ga l k2) (-(ga l k2)) - 1).toNat + 1) (gluW (gluW (invW (ga tb2 ((max (ga l k2) (-(ga l k2)) - 1).toNat + 1))) (ga tb2 ((max (ga l k2) (-(ga l k2)) - 1).toNat))) (ga tb2 ((max (ga l k2) (-(ga l k2)) - 1).toNat + 1)))), _, _, (((hle3.trans hle18).trans hle19).trans hle20), rfl, hax_.sub ⟨rfl, rfl, rfl, trivial⟩, S31.pick [0] [_] (by decide) ⟨rfl, trivial⟩, ?hq5f0, ?hq5f1, ?hq5f2, ?hq5f3, ?hq5f4⟩⟩
      case hq5f0 => omega
      case hq5f1 => (rw [actP_take _ _ _ (by omega), ← hact]; first | exact stepA_p hia9 (by omega) | exact stepA_n hib9 (by omega))
      case hq5f2 => (first | (rw [stepA_p hia9 (by omega)]; exact hok.step (hwb k2 (by omega))) | (rw [stepA_n hib9 (by omega)]; exact hok.step (hwb k2 (by omega))))
      case hq5f3 => (first | (rw [stepA_p hia9 (by omega)]; exact hred.step hok.1 (hwb k2 (by omega))) | (rw [stepA_n hib9 (by omega)]; exact hred.step hok.1 (hwb k2 (by omega))))
      case hq5f4 => exact hd5
      case hq5m => omega
    ·replace hb24 := of_decide_eq_false hb24
     refine ws_exit rfl rfl (nmk [5] rfl (nm_thn (ws_seqN ActOfB_n47 ActOfB_n48 rfl rfl rfl (ws_region rfl ?_))))
     refine wlm 0 1 rfl rfl rfl rfl rfl rfl rfl (wla 1 2 rfl rfl rfl rfl rfl rfl rfl (wl_end rfl (nmk [4] rfl (nm_thn ?_))))
     obtain ⟨M21, hle21, S32, ⟨A7, c7, e1, hr10⟩⟩ := S8.pubrow (i := 0) (H' := [_]) rfl rfl (by show _ * 24 ≤ _; first | omega | (simp only [lens]; omega))
     clear S8; subst e1
     replace hl := hl.mono (Hp.un_mono hle21 S32.mx)
     replace hdt := hdt.mono hle21
     replace hdt2 := hdt2.mono hle21
     refine ws_ret hC [_] rfl rfl ⟨rfl, trivial⟩ ?_
     refine ⟨_, rfl, _, (hle1.trans hle3).trans hle21, (S32.pick [] [] (by decide) trivial), ?_⟩
     obtain rfl : k2 = l.length := by omega
     have e : tb2 = actP m l := by rw [hact, List.take_length]
     subst e
     exact ⟨_, _, _, rfl, hr10, hdt2⟩
noncomputable def SameActs_n0 : Code := Try.f10.body.getD .skip
noncomputable def SameActs_n1 : Code := cL SameActs_n0
noncomputable def SameActs_n2 : Code := cR SameActs_n0
noncomputable def SameActs_n3 : Code := cL SameActs_n2
noncomputable def SameActs_n4 : Code := cR SameActs_n2
noncomputable def SameActs_n5 : Code := cL SameActs_n4
noncomputable def SameActs_n6 : Code := cR SameActs_n4
noncomputable def SameActs_n7 : Code := cL SameActs_n5
noncomputable def SameActs_n8 : Code := cR SameActs_n5
noncomputable def SameActs_n9 : Code := cL SameActs_n8
noncomputable def SameActs_n10 : Code := cL SameActs_n9
noncomputable def SameActs_n11 : Code := cL SameActs_n10
noncomputable def SameActs_n12 : Code := cR SameActs_n10
noncomputable def SameActs_n13 : Code := cL SameActs_n11
noncomputable def SameActs_n14 : Code := cR SameActs_n11
noncomputable def SameActs_n15 : Code := cL SameActs_n14
noncomputable def SameActs_n16 : Code := cR SameActs_n14
noncomputable def SameActs_n17 : Code := cL SameActs_n12
noncomputable def SameActs_n18 : Code := cR SameActs_n12
noncomputable def SameActs_n19 : Code := cL SameActs_n17
noncomputable def SameActs_n20 : Code := cL SameActs_n19
noncomputable def SameActs_n21 : Code := cR SameActs_n19
noncomputable def SameActs_n22 : Code := cL SameActs_n20
noncomputable def SameActs_n23 : Code := cR SameActs_n20
noncomputable def SameActs_n24 : Code := cL SameActs_n23
noncomputable def SameActs_n25 : Code := cR SameActs_n23
noncomputable def SameActs_n26 : Code := cL SameActs_n24
noncomputable def SameActs_n27 : Code := cR SameActs_n24
noncomputable def SameActs_n28 : Code := cL SameActs_n21
noncomputable def SameActs_n29 : Code := cR SameActs_n21
noncomputable def SameActs_n30 : Code := cL SameActs_n29
noncomputable def SameActs_n31 : Code := cL SameActs_n30
noncomputable def SameActs_n32 : Code := cL SameActs_n31
noncomputable def SameActs_n33 : Code := cR SameActs_n31
noncomputable def SameActs_n34 : Code := cL SameActs_n32
noncomputable def SameActs_n35 : Code := cR SameActs_n32
noncomputable def SameActs_n36 : Code := cL SameActs_n35
noncomputable def SameActs_n37 : Code := cR SameActs_n35
noncomputable def SameActs_n38 : Code := cL SameActs_n33
noncomputable def SameActs_n39 : Code := cR SameActs_n33
noncomputable def SameActs_n40 : Code := cL SameActs_n38
noncomputable def SameActs_n41 : Code := cL SameActs_n40
noncomputable def SameActs_n42 : Code := cR SameActs_n40
noncomputable def SameActs_n43 : Code := cL SameActs_n42
noncomputable def SameActs_n44 : Code := cR SameActs_n42
noncomputable def SameActs_n45 : Code := cL SameActs_n43
noncomputable def SameActs_n46 : Code := cR SameActs_n43
noncomputable def SameActs_n47 : Code := cL SameActs_n6
noncomputable def SameActs_n48 : Code := cR SameActs_n6
set_option maxRecDepth 10000 in
theorem SameActs_t {w : World} {M : Hp} {X : Fr} (m : Nat) (p : List Int) {pA : Option Addr} {pc : Nat} (q : List Int) {qA : Option Addr} {qc : Nat} (hp : RdA cdInt (M.un X.h) pA pc p) (hq : RdA cdInt (M.un X.h) qA qc q) (hm : m ≤ 6) (hpl : p.length ≤ 1000) (hql : q.length ≤ 1000) (hwp : lok m p) (hwq : lok m q) (hBp : BdW m p) (hBq : BdW m q) (S : SH w M X []) : Ct Try.prog 10 [.int .i64 (m : Int), .slice pA p.length pc, .slice qA q.length qc] w M X (fun u _ => u = .bool (decide (actP m p = actP m q))) := by
 unfold Ct
 have rmhp : p.length * 8 ≤ 140737488355328 := hp.room
 have rmhq : q.length * 8 ≤ 140737488355328 := hq.room
 have hap := (hwp.ok_ hm p.length (Nat.le_refl _)).1.1
 have haq := (hwq.ok_ hm q.length (Nat.le_refl _)).1.1
 rw [List.take_length] at hap haq
 refine calls_in (b := SameActs_n0) Try.func10 rfl Try.ntmps10 rfl (fun C hC => (ws_sub [(0, _), (1, _), (2, _)] ⟨rfl, rfl, rfl, trivial⟩ (ws_seqN SameActs_n1 SameActs_n2 rfl rfl rfl (ws_region rfl (wla 0 1 rfl rfl rfl rfl rfl rfl rfl ?_)))))
 refine wl_end rfl (nmk [0, 1, 2] rfl (nm_thn (ws_seqN SameActs_n3 SameActs_n4 rfl rfl rfl (ws_region rfl ?_))))
 refine wlm 0 1 rfl rfl rfl rfl rfl rfl rfl (wlm 1 2 rfl rfl rfl rfl rfl rfl rfl (wlo 2 3 rfl rfl rfl (wo_ct rfl rfl rfl rfl rfl rfl rfl cf21 S (ActOfB_t m p (hp.mono S.un_XH) (hm) ((by omega)) (hwp) (hBp) S.lend) ?_)))
 intro vw1 w1 M1 hle1 S1 hRw1; clear S
 replace hp := hp.mono (Hp.un_mono hle1 S1.mx)
 replace hq := hq.mono (Hp.un_mono hle1 S1.mx)
 obtain ⟨A1, c1, vs1, rfl, hr1, hd1⟩ := hRw1
 refine wlm 3 4 rfl rfl rfl rfl rfl rfl rfl (wlm 4 5 rfl rfl rfl rfl rfl rfl rfl (wlo 5 6 rfl rfl rfl (wo_ct rfl rfl rfl rfl rfl rfl rfl cf21 S1 (ActOfB_t m q (hq.mono S1.un_XH) (hm) ((by omega)) (hwq) (hBq) S1.lend) ?_)))
 intro vw2 w2 M2 hle2 S2 hRw2; clear S1
 replace hp := hp.mono (Hp.un_mono hle2 S2.mx)
 replace hq := hq.mono (Hp.un_mono hle2 S2.mx)
 replace hr1 := hr1.mono hle2
 replace hd1 := hd1.mono hle2
 obtain ⟨A2, c2, vs2, rfl, hr2, hd2⟩ := hRw2
 refine wla 6 7 rfl rfl rfl rfl rfl rfl rfl (wla 7 8 rfl rfl rfl rfl rfl rfl rfl (wl_end rfl (nmk [0, 7, 8] rfl (nm_thn ?_))))
 refine ws_seqN SameActs_n5 SameActs_n6 rfl rfl rfl (ws_seqN SameActs_n7 SameActs_n8 rfl rfl rfl ?_)
 have hva := hd1.1
 have hvb := hd2.1
 refine ws_region rfl (wla 0 1 rfl rfl rfl rfl rfl rfl rfl (wl_end rfl (nm_thn (ws_blockN SameActs_n9 0 rfl rfl rfl ?_))))
 refine ws_loopE (fun mx_ ax_ wx_ => ∃ (i : Nat), mx_ = m - i ∧ Env 57 [(0, .int .i64 (m : Int)), (7, .slice A1 vs1.length c1), (8, .slice A2 vs2.length c2), (9, .int .i64 (i : Int))] ax_ ∧ SH wx_ M2 X [] ∧ i ≤ m ∧ (∀ j, j < i → ga (actP m p) j = ga (actP m q) j)) rfl ?_ ?_
 ·intro ax_ hax_
  refine ⟨_, ⟨0, rfl, hax_.sub ⟨rfl, rfl, rfl, rfl, trivial⟩, S2.pick [] [] (by decide) trivial, ?hq1f0, ?hq1f1⟩⟩
  case hq1f0 => omega
  case hq1f1 => (intro j hj; omega)
 ·rintro m1 a1 w3 ⟨i, rfl, he1, S3, hi, hj⟩
  clear S2
  refine ws_in he1 (c := SameActs_n10) rfl ?_
  clear he1 a1
  refine ws_seqN SameActs_n11 SameActs_n12 rfl rfl rfl (ws_seqN SameActs_n13 SameActs_n14 rfl rfl rfl (ws_region rfl (wlm 0 1 rfl rfl rfl rfl rfl rfl rfl (wlm 1 2 rfl rfl rfl rfl rfl rfl rfl ?_))))
  refine wlo 2 3 rfl rfl rfl (wo_run rfl rfl (run_lss rfl rfl rfl) (wl_end rfl (nmk [0, 7, 8, 9, 19] rfl (nm_thn ?_))))
  refine ws_condN SameActs_n15 SameActs_n16 rfl rfl rfl rfl (fun hb19 => ?_) (fun hb19 => ?_)
  ·replace hb19 := of_decide_eq_true hb19
   refine ws_skip rfl (nmk [0, 7, 8, 9] rfl (nm_thn (ws_seqN SameActs_n17 SameActs_n18 rfl rfl rfl (ws_blockN SameActs_n19 1 rfl rfl rfl ?_))))
   refine ws_seqN SameActs_n20 SameActs_n21 rfl rfl rfl (ws_seqN SameActs_n22 SameActs_n23 rfl rfl rfl (ws_draw rfl (by kernel_rfl) S3 11 rfl ?_))
   clear S3
   refine wap 0 10 rfl (by kernel_rfl) rfl rfl rfl (fun w4 => run_move rfl rfl) ?_
   refine wap 1 9 rfl (by kernel_rfl) rfl rfl rfl (fun w5 => run_move rfl rfl) ?_
   refine wat 2 8 rfl (by kernel_rfl) rfl rfl rfl (fun M5 N3 w6 hle6 S6 => .inl (run_indexM (C := (cdV 22)) i rfl rfl rfl sl23 (by first | rfl | omega) (hr1.mono hle6) (by first | omega | (simp only [lens]; omega)))) ?_
   obtain ⟨hn1, hr3⟩ := hd1.2 i (by first | omega | (simp only [lens]; omega))
   have rmhr3 : (ga (actP m p) i).length * 8 ≤ 140737488355328 := hr3.room
   refine wat 3 7 rfl (by kernel_rfl) rfl rfl rfl (fun M6 N4 w7 hle7 S7 => .inl (run_load1 rfl rfl Try.underlying22 rfl ((hr1.mono hle7).cell S7.m (i := i) (by first | omega | (simp only [lens]; omega)) 0 rfl (congrArg (fun n => some (Value.slice _ n _)) hn1)))) ?_
   refine wat 4 6 rfl (by kernel_rfl) rfl rfl rfl (fun M7 N5 w8 hle8 S8 => .inl (run_len rfl rfl rfl rfl rfl rfl Try.underlying22)) ?_
   refine wap 5 5 rfl (by kernel_rfl) rfl rfl rfl (fun w9 => run_move rfl rfl) ?_
   refine wap 6 4 rfl (by kernel_rfl) rfl rfl rfl (fun w10 => run_move rfl rfl) ?_
   refine wat 7 3 rfl (by kernel_rfl) rfl rfl rfl (fun M10 N8 w11 hle11 S11 => .inl (run_indexM (C := (cdV 22)) i rfl rfl rfl sl23 (by first | rfl | omega) (hr2.mono hle11) (by first | omega | (simp only [lens]; omega)))) ?_
   obtain ⟨hn2, hr4⟩ := hd2.2 i (by first | omega | (simp only [lens]; omega))
   have rmhr4 : (ga (actP m q) i).length * 8 ≤ 140737488355328 := hr4.room
   refine wat 8 2 rfl (by kernel_rfl) rfl rfl rfl (fun M11 N9 w12 hle12 S12 => .inl (run_load1 rfl rfl Try.underlying22 rfl ((hr2.mono hle12).cell S12.m (i := i) (by first | omega | (simp only [lens]; omega)) 0 rfl (congrArg (fun n => some (Value.slice _ n _)) hn2)))) ?_
   refine wat 9 1 rfl (by kernel_rfl) rfl rfl rfl (fun M12 N10 w13 hle13 S13 => .inl (run_len rfl rfl rfl rfl rfl rfl Try.underlying22)) ?_
   refine wap 10 0 rfl (by kernel_rfl) rfl rfl rfl (fun w14 => run_neq rfl rfl rfl) ?_
   refine wa_end (by kernel_rfl) (fun w15 S15 => ?_)
   refine nmk [0, 7, 8, 9, 32] rfl (nm_thn ?_)
   refine ws_condN SameActs_n24 SameActs_n25 rfl rfl rfl rfl (fun hb32 => ?_) (fun hb32 => ?_)
   ·replace hb32 := of_decide_eq_true hb32
    refine ws_seqN SameActs_n26 SameActs_n27 rfl rfl rfl (ws_region rfl (wla 0 1 rfl rfl rfl rfl rfl rfl rfl (wl_end rfl (nmk [6] rfl ?_))))
    refine nm_thn (ws_ret hC [_] rfl rfl ⟨rfl, trivial⟩ ?_)
    refine ⟨_, rfl, _, hle1.trans hle2, (S15.pick [] [] (by decide) trivial), ?_⟩
    show Value.bool _ = Value.bool _
    refine congrArg Value.bool ?_
    first | exact (decide_eq_true (ga_ext (by omega) fun x hx => hj x (by omega))).symm | exact (decide_eq_false (fun e => by (have h9 : (ga (actP m p) i).length = (ga (actP m q) i).length := (by rw [e])); omega)).symm | exact (decide_eq_false (fun e => by (have h9 : ga (ga (actP m p) i) k = ga (ga (actP m q) i) k := (by rw [e])); omega)).symm
   ·replace hb32 := of_decide_eq_false hb32
    refine ws_skip rfl (nmk [0, 7, 8, 9] rfl (nm_thn (ws_seqN SameActs_n28 SameActs_n29 rfl rfl rfl (ws_region rfl ?_))))
    refine wla 0 1 rfl rfl rfl rfl rfl rfl rfl (wl_end rfl (nm_thn (ws_blockN SameActs_n30 2 rfl rfl rfl ?_)))
    refine ws_loopE (fun mx_ ax_ wx_ => ∃ (k : Nat), mx_ = (ga (actP m p) i).length - k ∧ Env 57 [(0, .int .i64 (m : Int)), (7, .slice A1 vs1.length c1), (8, .slice A2 vs2.length c2), (9, .int .i64 (i : Int)), (10, .int .i64 (k : Int))] ax_ ∧ SH wx_ M2 X [] ∧ k ≤ (ga (actP m p) i).length ∧ (∀ x, x < k → ga (ga (actP m p) i) x = ga (ga (actP m q) i) x)) rfl ?_ ?_
    ·intro ax_ hax_
     refine ⟨_, ⟨0, rfl, hax_.sub ⟨rfl, rfl, rfl, rfl, rfl, trivial⟩, S15.pick [] [] (by decide) trivial, ?hq2f0, ?hq2f1⟩⟩
     case hq2f0 => omega
     case hq2f1 => (intro x hx; omega)
    ·rintro m2 a2 w16 ⟨k, rfl, he2, S16, hk, hk2⟩
     clear S15
     refine ws_in he2 (c := SameActs_n31) rfl ?_
     clear he2 a2
     refine ws_seqN SameActs_n32 SameActs_n33 rfl rfl rfl (ws_seqN SameActs_n34 SameActs_n35 rfl rfl rfl (ws_region rfl (wlm 0 1 rfl rfl rfl rfl rfl rfl rfl (wlm 1 2 rfl rfl rfl rfl rfl rfl rfl ?_))))
     refine wlm 2 3 rfl rfl rfl rfl rfl rfl rfl (wlo 3 4 rfl rfl rfl (wo_run rfl rfl (run_indexM (C := (cdV 22)) i rfl rfl rfl sl23 (by first | rfl | omega) hr1 (by first | omega | (simp only [lens]; omega))) ?_))
     obtain ⟨hn3, hr5⟩ := hd1.2 i (by first | omega | (simp only [lens]; omega))
     have rmhr5 : (ga (actP m p) i).length * 8 ≤ 140737488355328 := hr5.room
     refine wlo 4 5 rfl rfl rfl (wo_run rfl rfl (run_load1 rfl rfl Try.underlying22 rfl (hr1.cell S16.m (i := i) (by first | omega | (simp only [lens]; omega)) 0 rfl (congrArg (fun n => some (Value.slice _ n _)) hn3))) ?_)
     refine wlo 5 6 rfl rfl rfl (wo_run rfl rfl (run_len rfl rfl rfl rfl rfl rfl Try.underlying22) (wlo 6 7 rfl rfl rfl (wo_run rfl rfl (run_lss rfl rfl rfl) (wl_end rfl (nmk [0, 7, 8, 9, 10, 39] rfl (nm_thn ?_))))))
     refine ws_condN SameActs_n36 SameActs_n37 rfl rfl rfl rfl (fun hb39 => ?_) (fun hb39 => ?_)
     ·replace hb39 := of_decide_eq_true hb39
      refine ws_skip rfl (nmk [0, 7, 8, 9, 10] rfl (nm_thn (ws_seqN SameActs_n38 SameActs_n39 rfl rfl rfl (ws_blockN SameActs_n40 3 rfl rfl rfl ?_))))
      refine ws_seqN SameActs_n41 SameActs_n42 rfl rfl rfl (ws_draw rfl (by kernel_rfl) S16 15 rfl ?_)
      clear S16
      refine wap 0 14 rfl (by kernel_rfl) rfl rfl rfl (fun w17 => run_move rfl rfl) ?_
      refine wap 1 13 rfl (by kernel_rfl) rfl rfl rfl (fun w18 => run_move rfl rfl) ?_
      refine wat 2 12 rfl (by kernel_rfl) rfl rfl rfl (fun M16 N14 w19 hle18 S19 => .inl (run_indexM (C := (cdV 22)) i rfl rfl rfl sl23 (by first | rfl | omega) (hr1.mono hle18) (by first | omega | (simp only [lens]; omega)))) ?_
      obtain ⟨hn4, hr6⟩ := hd1.2 i (by first | omega | (simp only [lens]; omega))
      have rmhr6 : (ga (actP m p) i).length * 8 ≤ 140737488355328 := hr6.room
      refine wat 3 11 rfl (by kernel_rfl) rfl rfl rfl (fun M17 N15 w20 hle19 S20 => .inl (run_load1 rfl rfl Try.underlying22 rfl ((hr1.mono hle19).cell S20.m (i := i) (by first | omega | (simp only [lens]; omega)) 0 rfl (congrArg (fun n => some (Value.slice _ n _)) hn4)))) ?_
      refine wap 4 10 rfl (by kernel_rfl) rfl rfl rfl (fun w21 => run_move rfl rfl) ?_
      refine wat 5 9 rfl (by kernel_rfl) rfl rfl rfl (fun M19 N17 w22 hle21 S22 => .inl (run_indexM (C := cdInt) k rfl rfl rfl sl22 (by first | rfl | omega) (hr6.mono hle21) (by first | omega | (simp only [lens]; omega)))) ?_
      refine wat 6 8 rfl (by kernel_rfl) rfl rfl rfl (fun M20 N18 w23 hle22 S23 => .inl (run_load1 rfl rfl Try.underlying3 rfl ((hr6.mono hle22).cell S23.m (i := k) (by first | omega | (simp only [lens]; omega)) 0 rfl rfl))) ?_
      refine wap 7 7 rfl (by kernel_rfl) rfl rfl rfl (fun w24 => run_move rfl rfl) ?_
      refine wap 8 6 rfl (by kernel_rfl) rfl rfl rfl (fun w25 => run_move rfl rfl) ?_
      refine wat 9 5 rfl (by kernel_rfl) rfl rfl rfl (fun M23 N21 w26 hle25 S26 => .inl (run_indexM (C := (cdV 22)) i rfl rfl rfl sl23 (by first | rfl | omega) (hr2.mono hle25) (by first | omega | (simp only [lens]; omega)))) ?_
      obtain ⟨hn5, hr7⟩ := hd2.2 i (by first | omega | (simp only [lens]; omega))
      have rmhr7 : (ga (actP m q) i).length * 8 ≤ 140737488355328 := hr7.room
      refine wat 10 4 rfl (by kernel_rfl) rfl rfl rfl (fun M24 N22 w27 hle26 S27 => .inl (run_load1 rfl rfl Try.underlying22 rfl ((hr2.mono hle26).cell S27.m (i := i) (by first | omega | (simp only [lens]; omega)) 0 rfl (congrArg (fun n => some (Value.slice _ n _)) hn5)))) ?_
      refine wap 11 3 rfl (by kernel_rfl) rfl rfl rfl (fun w28 => run_move rfl rfl) ?_
      refine wat 12 2 rfl (by kernel_rfl) rfl rfl rfl (fun M26 N24 w29 hle28 S29 => .inl (run_indexM (C := cdInt) k rfl rfl rfl sl22 (by first | rfl | omega) (hr7.mono hle28) (by first | omega | (simp only [lens]; omega)))) ?_
      refine wat 13 1 rfl (by kernel_rfl) rfl rfl rfl (fun M27 N25 w30 hle29 S30 => .inl (run_load1 rfl rfl Try.underlying3 rfl ((hr7.mono hle29).cell S30.m (i := k) (by first | omega | (simp only [lens]; omega)) 0 rfl rfl))) ?_
      refine wap 14 0 rfl (by kernel_rfl) rfl rfl rfl (fun w31 => run_neq rfl rfl rfl) ?_
      refine wa_end (by kernel_rfl) (fun w32 S32 => ?_)
      refine nmk [0, 7, 8, 9, 10, 56] rfl (nm_thn ?_)
      refine ws_condN SameActs_n43 SameActs_n44 rfl rfl rfl rfl (fun hb56 => ?_) (fun hb56 => ?_)
      ·replace hb56 := of_decide_eq_true hb56
       refine ws_seqN SameActs_n45 SameActs_n46 rfl rfl rfl (ws_region rfl (wla 0 1 rfl rfl rfl rfl rfl rfl rfl (wl_end rfl (nmk [6] rfl ?_))))
       refine nm_thn (ws_ret hC [_] rfl rfl ⟨rfl, trivial⟩ ?_)
       refine ⟨_, rfl, _, hle1.trans hle2, (S32.pick [] [] (by decide) trivial), ?_⟩
       show Value.bool _ = Value.bool _
       refine congrArg Value.bool ?_
       first | exact (decide_eq_true (ga_ext (by omega) fun x hx => hj x (by omega))).symm | exact (decide_eq_false (fun e => by (have h9 : (ga (actP m p) i).length = (ga (actP m q) i).length := (by rw [e])); omega)).symm | exact (decide_eq_false (fun e => by (have h9 : ga (ga (actP m p) i) k = ga (ga (actP m q) i) k := (by rw [e])); omega)).symm
      ·replace hb56 := of_decide_eq_false hb56
       refine ws_skip rfl (nm_blk (nmk [0, 7, 8, 9, 10] rfl (nm_thn (ws_region rfl ?_))))
       refine wlm 0 1 rfl rfl rfl rfl rfl rfl rfl (wlo 1 2 rfl rfl rfl (wo_run rfl rfl (run_add rfl rfl rfl (by first | omega | (simp only [lens]; omega))) ?_))
       refine wla 2 3 rfl rfl rfl rfl rfl rfl rfl (wl_end rfl (nm_lp ?_))
       intro ax_ hax_
       refine ⟨_, ?hq3m, ⟨k + 1, rfl, hax_.sub ⟨rfl, rfl, rfl, rfl, rfl, trivial⟩, S32.pick [] [] (by decide) trivial, ?hq3f0, ?hq3f1⟩⟩
       case hq3f0 => omega
       case hq3f1 => (intro x hx; by_cases c : x = k; (subst c; omega); exact hk2 x (by omega))
       case hq3m => omega
     ·replace hb39 := of_decide_eq_false hb39
      refine ws_exit rfl rfl (nm_blk (nmk [0, 7, 8, 9] rfl (nm_thn (ws_region rfl ?_))))
      refine wlm 0 1 rfl rfl rfl rfl rfl rfl rfl (wlo 1 2 rfl rfl rfl (wo_run rfl rfl (run_add rfl rfl rfl (by first | omega | (simp only [lens]; omega))) ?_))
      refine wla 2 3 rfl rfl rfl rfl rfl rfl rfl (wl_end rfl (nm_lp ?_))
      intro ax_ hax_
      refine ⟨_, ?hq4m, ⟨i + 1, rfl, hax_.sub ⟨rfl, rfl, rfl, rfl, trivial⟩, S16.pick [] [] (by decide) trivial, ?hq4f0, ?hq4f1⟩⟩
      case hq4f0 => omega
      case hq4f1 => (intro j hj2; by_cases c : j = i; (subst c; exact ga_ext (by omega) fun x hx => hk2 x (by omega)); exact hj j (by omega))
      case hq4m => omega
  ·replace hb19 := of_decide_eq_false hb19
   refine ws_exit rfl rfl (nm_sub [] trivial (nm_thn (ws_seqN SameActs_n47 SameActs_n48 rfl rfl rfl (ws_region rfl ?_))))
   refine wla 0 1 rfl rfl rfl rfl rfl rfl rfl (wl_end rfl (nm_thn (ws_ret hC [_] rfl rfl ⟨rfl, trivial⟩ ?_)))
   refine ⟨_, rfl, _, hle1.trans hle2, (S3.pick [] [] (by decide) trivial), ?_⟩
   show Value.bool _ = Value.bool _
   refine congrArg Value.bool ?_
   first | exact (decide_eq_true (ga_ext (by omega) fun x hx => hj x (by omega))).symm | exact (decide_eq_false (fun e => by (have h9 : (ga (actP m p) i).length = (ga (actP m q) i).length := (by rw [e])); omega)).symm | exact (decide_eq_false (fun e => by (have h9 : ga (ga (actP m p) i) k = ga (ga (actP m q) i) k := (by rw [e])); omega)).symm
end Go.Proofs.Ytomcgmialkdcbaa
namespace Go.Proofs.Ytomcgmialkdcbaa
open Go.ChangeShapes Go.WideShapes Go.ChangeAt Go.RowKit
theorem lok.okW_ {n : Nat} {w : List Int} (h : lok n w) : okW n w := fun x hx => by
 obtain ⟨i, hi, rfl⟩ := List.mem_iff_getElem.1 hx
 have := h i hi
 rw [ga_eq hi] at this
 omega
end Go.Proofs.Ytomcgmialkdcbaa
namespace Go.Proofs.Ytomcgmialkdcbaa
open Go.RowKit
open Wd
section
variable {n : Nat}
theorem EqT.dI2_ {T U : Nat → Wd} (h : EqT n T U) : EqT n (dI n T) (dI n U) := fun j j1 j2 => by
  unfold dI
  rw [h.suf_, h.suf_]
theorem EqT.dP_ {T U : Nat → Wd} (h : EqT n T U) (z : Int) : EqT n (dP n z T) (dP n z U) := by
  have k1 : ∀ m, EqT n (itT (acT n (fnP (delL n))) m T) (itT (acT n (fnP (delL n))) m U) := by
    intro m
    induction m with
    | zero => exact h
    | succ m ih => exact ih.acT_
  have k2 : ∀ m, EqT n (itT (dI n) m T) (itT (dI n) m U) := by
    intro m
    induction m with
    | zero => exact h
    | succ m ih => exact ih.dI2_
  unfold dP
  split
  · exact k1 _
  · exact k2 _
theorem hm_dI (T U : Nat → Wd) : (fun k => hm T (dI n U k)) = dI n fun k => hm T (U k) := by
  funext j
  unfold dI suf
  rw [hm_mul, hm_inv, hm_pr, hm_pr]
theorem hm_dP (T U : Nat → Wd) (z : Int) : (fun k => hm T (dP n z U k)) = dP n z fun k => hm T (U k) := by
  have k1 : ∀ m, (fun k => hm T (itT (acT n (fnP (delL n))) m U k)) = itT (acT n (fnP (delL n))) m fun k => hm T (U k) := by
    intro m
    induction m with
    | zero => rfl
    | succ m ih =>
      show (fun k => hm T (acT n (fnP (delL n)) (itT (acT n (fnP (delL n))) m U) k)) = acT n (fnP (delL n)) _
      rw [hm_acT, ih]
  have k2 : ∀ m, (fun k => hm T (itT (dI n) m U k)) = itT (dI n) m fun k => hm T (U k) := by
    intro m
    induction m with
    | zero => rfl
    | succ m ih =>
      show (fun k => hm T (dI n (itT (dI n) m U) k)) = dI n _
      rw [hm_dI, ih]
  unfold dP
  split
  · exact k1 _
  · exact k2 _
theorem dP_zero (T : Nat → Wd) : dP n 0 T = T := rfl
theorem dP_comp (T : Nat → Wd) (a b : Int) : EqT n (dP n a (dP n b T)) (dP n (a + b) T) := by
  have up : ∀ m : Nat, EqT n (dP n (m : Int) (dP n b T)) (dP n ((m : Int) + b) T) := by
    intro m
    induction m with
    | zero => rw [show ((0 : Nat) : Int) = 0 from rfl, Int.zero_add]; exact EqT.refl _ _
    | succ m ih =>
      have e1 := dP_inc (n := n) (m : Int) (dP n b T)
      have e2 := dP_inc (n := n) ((m : Int) + b) T
      rw [show ((m + 1 : Nat) : Int) = (m : Int) + 1 by omega, show (m : Int) + 1 + b = (m : Int) + b + 1 by omega]
      exact (e1.trans ih.acT_).trans e2.symm
  have dn : ∀ m : Nat, EqT n (dP n (-(m : Int)) (dP n b T)) (dP n (-(m : Int) + b) T) := by
    intro m
    induction m with
    | zero => rw [show -((0 : Nat) : Int) = 0 from rfl, Int.zero_add]; exact EqT.refl _ _
    | succ m ih =>
      have e1 := dP_dec (n := n) (-(m : Int)) (dP n b T)
      have e2 := dP_dec (n := n) (-(m : Int) + b) T
      rw [show -((m + 1 : Nat) : Int) = -(m : Int) - 1 by omega, show -(m : Int) - 1 + b = -(m : Int) + b - 1 by omega]
      exact (e1.trans ih.dI2_).trans e2.symm
  rcases Int.le_total 0 a with h | h
  · have := up a.toNat
    rwa [show ((a.toNat : Nat) : Int) = a by omega] at this
  · have := dn (-a).toNat
    rwa [show -(((-a).toNat : Nat) : Int) = a by omega] at this
theorem acL_del (l : List (List Int)) : ∀ (e : Nat) (T : Nat → Wd), acL n (List.replicate e (delL n) ++ l) T = acL n l (itT (acT n (fnP (delL n))) e T)
  | 0, T => rfl
  | e + 1, T => by
    rw [List.replicate_succ, List.cons_append]
    show acL n (List.replicate e (delL n) ++ l) (acT n (fnP (delL n)) T) = _
    rw [acL_del l e]
    have key : ∀ (e : Nat) (T : Nat → Wd), itT (acT n (fnP (delL n))) e (acT n (fnP (delL n)) T) = acT n (fnP (delL n)) (itT (acT n (fnP (delL n))) e T) := by
      intro e
      induction e with
      | zero => intro T; rfl
      | succ e ih => intro T; show acT n (fnP (delL n)) (itT (acT n (fnP (delL n))) e (acT n (fnP (delL n)) T)) = _; rw [ih]; rfl
    rw [key]; rfl
theorem del_pl {v : Nat} (h1 : 1 ≤ v) (h2 : v ≤ n) : plL (delL n) (v : Int) = n + 1 - v := by
  have := (PL.del_ n).pl_of (j := n + 1 - v) (by omega) (by omega)
  rwa [delL_ga (by omega) (by omega), show (n : Int) + 1 - ((n + 1 - v : Nat) : Int) = (v : Int) by omega] at this
theorem del_lw (q : List Int) : LW n (delL n) q := fun i i1 i2 _ => by
  have a := del_pl (n := n) i1 (by omega)
  have b := del_pl (n := n) (v := i + 1) (by omega) (by omega)
  rw [show ((i + 1 : Nat) : Int) = (i : Int) + 1 by omega] at b
  omega
theorem del_ne (h2 : 2 ≤ n) : delL n ≠ idL n := fun e => by
  have a : ga (delL n) 1 = ga (idL n) 1 := by rw [e]
  rw [delL_ga (Nat.le_refl _) (by omega), idL_ga (by omega)] at a
  omega
theorem Stb.dels {l : List (List Int)} (h : Stb n l) : ∀ e, Stb n (List.replicate e (delL n) ++ l)
  | 0 => h
  | e + 1 => by
    rw [List.replicate_succ, List.cons_append]
    intro k hk
    cases k with
    | zero => exact del_lw _
    | succ k => exact Stb.dels h e k (by simpa using hk)
theorem nf_le (h2 : 2 ≤ n) {u v : List Int} {z y : Int} {l m : List (List Int)} (hu : Nf n u z l) (hv : Nf n v y m) (e : EqT n (stW tb0 u) (stW tb0 v)) (hzy : z ≤ y) : z = y ∧ l = m := by
  have e1 : EqT n (acL n l (dP n z tb0)) (acL n m (dP n y tb0)) := (hu.nf.act.trans e).trans hv.nf.act.symm
  -- the power of the half turn is taken off
  have f : ∀ (K : List (List Int)) (a : Int), EqT n (fun k => hm (dP n (-z) ux) (acL n K (dP n a tb0) k)) (acL n K (dP n (a + -z) ux)) := fun K a => by
    rw [hm_acL, hm_dP]
    refine EqT.acL_ (l := K) (EqT.trans (EqT.dP_ (fun k k1 _ => hm_tb0 _ k1) a) (dP_comp ux a (-z)))
  have e2 : EqT n (acL n l (dP n (z + -z) ux)) (acL n m (dP n (y + -z) ux)) := ((f l z).symm.trans (fun k k1 k2 => by show hm _ _ = hm _ _; rw [e1 k k1 k2])).trans (f m y)
  have e3 : dP n (y + -z) ux = itT (acT n (fnP (delL n))) (y - z).toNat ux := by
    unfold dP
    rw [if_pos (by omega), show y + -z = y - z by omega]
  rw [show z + -z = 0 by omega, dP_zero, e3, ← acL_del] at e2
  have hL := uniqL (L := l) (K := List.replicate (y - z).toNat (delL n) ++ m) hu.nf.pl (fun p hp => by
    rcases List.mem_append.1 hp with hp | hp
    · rw [List.eq_of_mem_replicate hp]; exact PL.del_ n
    · exact hv.nf.pl p hp) hu.stb (hv.stb.dels _) hu.id (fun p hp => by
    rcases List.mem_append.1 hp with hp | hp
    · rw [List.eq_of_mem_replicate hp]; exact del_ne h2
    · exact hv.id p hp) e2
  rcases Nat.eq_zero_or_pos (y - z).toNat with h0 | h0
  · rw [h0] at hL
    exact ⟨by omega, hL⟩
  · exfalso
    obtain ⟨k, hk⟩ : ∃ k, (y - z).toNat = k + 1 := ⟨(y - z).toNat - 1, by omega⟩
    rw [hk, List.replicate_succ, List.cons_append] at hL
    refine hu.del ?_ ?_
    · rw [hL]; simp
    · rw [hL]; rfl
theorem nf_same (h2 : 2 ≤ n) {u v : List Int} {z y : Int} {l m : List (List Int)} (hu : Nf n u z l) (hv : Nf n v y m) (wu : okW n u) (wv : okW n v) : (z = y ∧ l = m) ↔ actP n u = actP n v := by
  constructor
  · rintro ⟨rfl, rfl⟩
    exact act_same wu wv (hu.nf.act.symm.trans hv.nf.act)
  · intro e
    have e1 : EqT n (stW tb0 u) (stW tb0 v) := fun k k1 k2 => by
      have a := (tab_word wu).2 (k - 1) (by omega)
      have b := (tab_word wv).2 (k - 1) (by omega)
      rw [show k - 1 + 1 = k by omega] at a b
      exact Wd.ext (by rw [← a, ← b, e])
    rcases Int.le_total z y with h | h
    · exact nf_le h2 hu hv e1 h
    · obtain ⟨a, b⟩ := nf_le h2 hv hu e1.symm h
      exact ⟨a.symm, b.symm⟩
end
end Go.Proofs.Ytomcgmialkdcbaa
namespace Go.Proofs.Ytomcgmialkdcbaa
open Go.ChangeShapes Go.WideShapes Go.ChangeAt Go.RowKit
theorem check_ok2 {n : Int} {p q : List Int} (h : checkI n [p, q] = 0) : 2 ≤ n ∧ n ≤ 6 ∧ p.length ≤ 20 ∧ q.length ≤ 20 ∧ (∀ i, i < p.length → 1 ≤ max (ga p i) (-(ga p i)) ∧ max (ga p i) (-(ga p i)) < n) ∧ ∀ i, i < q.length → 1 ≤ max (ga q i) (-(ga q i)) ∧ max (ga q i) (-(ga q i)) < n := by
 unfold checkI at h
 split at h
 ·cases h
 ·rename_i h1
  split at h
  ·cases h
  ·rename_i h2
   split at h
   ·cases h
   ·rename_i h3
    simp only [List.any_cons, List.any_nil, Bool.or_false, Bool.or_eq_true, decide_eq_true_iff, not_or] at h2 h3
    have key : ∀ w : List Int, ¬ w.any (wrongB n) = true → ∀ i, i < w.length → 1 ≤ max (ga w i) (-(ga w i)) ∧ max (ga w i) (-(ga w i)) < n := fun w hw i hi => by
     have h4 : wrongB n (ga w i) = false := by
      rw [Bool.not_eq_true, List.any_eq_false] at hw
      have := hw _ (ga_mem hi)
      simpa using this
     unfold wrongB at h4
     rw [decide_eq_false_iff_not] at h4
     omega
    exact ⟨by omega, by omega, by omega, by omega, key p h2.1, key q h2.2⟩
theorem mayI_check2 (n : Int) (u v : List Int) : mayI n u v = checkI n [u, v] := by
 unfold mayI checkI
 simp
def EqE (n : Int) (p q : List Int) (u : Value) : Prop := (checkI n [p, q] ≠ 0 → u = tup [.bool false, .int .i64 (checkI n [p, q])]) ∧ (checkI n [p, q] = 0 → u = tup [.bool (decide (actP n.toNat p = actP n.toNat q)), .int .i64 0])
noncomputable def Equal1_n0 : Code := Try.f19.body.getD .skip
noncomputable def Equal1_n1 : Code := cL Equal1_n0
noncomputable def Equal1_n2 : Code := cR Equal1_n0
noncomputable def Equal1_n3 : Code := cL Equal1_n2
noncomputable def Equal1_n4 : Code := cR Equal1_n2
set_option maxRecDepth 10000 in
theorem Equal1_q {w : World} {M : Hp} {X : Fr} (p : List Int) {pA : Option Addr} {pc : Nat} (q : List Int) {qA : Option Addr} {qc : Nat} (hp : RdA cdInt (M.un X.h) pA pc p) (hq : RdA cdInt (M.un X.h) qA qc q) (S : SH w M X []) : Cq Try.prog 19 [.slice pA p.length pc, .slice qA q.length qc] w M X (fun u => u = .bool (decide (p = q))) := by
 unfold Cq
 have rmhp : p.length * 8 ≤ 140737488355328 := hp.room
 have rmhq : q.length * 8 ≤ 140737488355328 := hq.room
 refine calls_in (b := Equal1_n0) Try.func19 rfl Try.ntmps19 rfl (fun C hC => (ws_sub [(0, _), (1, _)] ⟨rfl, rfl, trivial⟩ (ws_seqN Equal1_n1 Equal1_n2 rfl rfl rfl (ws_region rfl (wla 0 1 rfl rfl rfl rfl rfl rfl rfl ?_)))))
 refine wl_end rfl (nmk [0, 1] rfl (nm_thn (ws_seqN Equal1_n3 Equal1_n4 rfl rfl rfl (ws_region rfl ?_))))
 refine wlm 0 1 rfl rfl rfl rfl rfl rfl rfl (wlm 1 2 rfl rfl rfl rfl rfl rfl rfl (wlo 2 3 rfl rfl rfl (wo_cq rfl rfl rfl rfl rfl rfl rfl cf20 S (EqualP_q p q (hp.mono S.un_XH) (hq.mono S.un_XH) S.lend) ?_)))
 rintro _ w1 S1 rfl; clear S
 refine wla 3 4 rfl rfl rfl rfl rfl rfl rfl (wl_end rfl (nmk [4] rfl (nm_thn (ws_ret hC [_] rfl rfl ⟨rfl, trivial⟩ ?_))))
 exact ⟨_, rfl, (S1.pick [] [] (by decide) trivial), rfl⟩
noncomputable def EqualFuncP_n0 : Code := Try.f18.body.getD .skip
noncomputable def EqualFuncP_n1 : Code := cL EqualFuncP_n0
noncomputable def EqualFuncP_n2 : Code := cR EqualFuncP_n0
noncomputable def EqualFuncP_n3 : Code := cL EqualFuncP_n2
noncomputable def EqualFuncP_n4 : Code := cR EqualFuncP_n2
noncomputable def EqualFuncP_n5 : Code := cL EqualFuncP_n3
noncomputable def EqualFuncP_n6 : Code := cR EqualFuncP_n3
noncomputable def EqualFuncP_n7 : Code := cL EqualFuncP_n6
noncomputable def EqualFuncP_n8 : Code := cR EqualFuncP_n6
noncomputable def EqualFuncP_n9 : Code := cL EqualFuncP_n7
noncomputable def EqualFuncP_n10 : Code := cR EqualFuncP_n7
noncomputable def EqualFuncP_n11 : Code := cL EqualFuncP_n4
noncomputable def EqualFuncP_n12 : Code := cR EqualFuncP_n4
noncomputable def EqualFuncP_n13 : Code := cL EqualFuncP_n11
noncomputable def EqualFuncP_n14 : Code := cR EqualFuncP_n11
noncomputable def EqualFuncP_n15 : Code := cL EqualFuncP_n14
noncomputable def EqualFuncP_n16 : Code := cL EqualFuncP_n15
noncomputable def EqualFuncP_n17 : Code := cL EqualFuncP_n16
noncomputable def EqualFuncP_n18 : Code := cR EqualFuncP_n16
noncomputable def EqualFuncP_n19 : Code := cL EqualFuncP_n18
noncomputable def EqualFuncP_n20 : Code := cR EqualFuncP_n18
noncomputable def EqualFuncP_n21 : Code := cL EqualFuncP_n19
noncomputable def EqualFuncP_n22 : Code := cR EqualFuncP_n19
noncomputable def EqualFuncP_n23 : Code := cL EqualFuncP_n20
noncomputable def EqualFuncP_n24 : Code := cR EqualFuncP_n20
noncomputable def EqualFuncP_n25 : Code := cL EqualFuncP_n23
noncomputable def EqualFuncP_n26 : Code := cL EqualFuncP_n25
noncomputable def EqualFuncP_n27 : Code := cR EqualFuncP_n25
noncomputable def EqualFuncP_n28 : Code := cL EqualFuncP_n27
noncomputable def EqualFuncP_n29 : Code := cR EqualFuncP_n27
noncomputable def EqualFuncP_n30 : Code := cL EqualFuncP_n29
noncomputable def EqualFuncP_n31 : Code := cR EqualFuncP_n29
noncomputable def EqualFuncP_n32 : Code := cL EqualFuncP_n31
noncomputable def EqualFuncP_n33 : Code := cR EqualFuncP_n31
noncomputable def EqualFuncP_n34 : Code := cL EqualFuncP_n32
noncomputable def EqualFuncP_n35 : Code := cR EqualFuncP_n32
noncomputable def EqualFuncP_n36 : Code := cL EqualFuncP_n12
noncomputable def EqualFuncP_n37 : Code := cR EqualFuncP_n12
set_option maxRecDepth 10000 in
theorem EqualFuncP_q {w : World} {M : Hp} {X : Fr} (p : List (List Int)) {pA : Option Addr} {pc : Nat} {pv : List SlV} (q : List (List Int)) {qA : Option Addr} {qc : Nat} {qv : List SlV} (hp : RdA (cdV 38) (M.un X.h) pA pc pv) (hdp : Rd2 cdInt (M.un X.h) pv p) (hq : RdA (cdV 38) (M.un X.h) qA qc qv) (hdq : Rd2 cdInt (M.un X.h) qv q) (S : SH w M X []) : Cq Try.prog 18 [.slice pA pv.length pc, .slice qA qv.length qc, .func (.func 19) #[] #[]] w M X (fun u => u = .bool (decide (p = q))) := by
 unfold Cq
 have rmhp : pv.length * 24 ≤ 140737488355328 := hp.room
 have rmhq : qv.length * 24 ≤ 140737488355328 := hq.room
 have hpl := hdp.1
 have hql := hdq.1
 refine calls_in (b := EqualFuncP_n0) Try.func18 rfl Try.ntmps18 rfl (fun C hC => (ws_sub [(0, _), (1, _), (2, _)] ⟨rfl, rfl, rfl, trivial⟩ (ws_seqN EqualFuncP_n1 EqualFuncP_n2 rfl rfl rfl (ws_region rfl (wla 0 1 rfl rfl rfl rfl rfl rfl rfl ?_)))))
 refine wl_end rfl (nmk [0, 1, 2] rfl (nm_thn (ws_seqN EqualFuncP_n3 EqualFuncP_n4 rfl rfl rfl (ws_seqN EqualFuncP_n5 EqualFuncP_n6 rfl rfl rfl ?_))))
 refine ws_region rfl (wlm 0 1 rfl rfl rfl rfl rfl rfl rfl (wlo 1 2 rfl rfl rfl (wo_run rfl rfl (run_len rfl rfl rfl rfl rfl rfl Try.underlying35) (wlm 2 3 rfl rfl rfl rfl rfl rfl rfl (wlo 3 4 rfl rfl rfl (wo_run rfl rfl (run_len rfl rfl rfl rfl rfl rfl Try.underlying35) ?_))))))
 refine wlo 4 5 rfl rfl rfl (wo_run rfl rfl (run_neq rfl rfl rfl) (wl_end rfl (nmk [0, 1, 2, 14] rfl (nm_thn ?_))))
 refine ws_condN EqualFuncP_n7 EqualFuncP_n8 rfl rfl rfl rfl (fun hb14 => ?_) (fun hb14 => ?_)
 ·replace hb14 := of_decide_eq_true hb14
  refine ws_seqN EqualFuncP_n9 EqualFuncP_n10 rfl rfl rfl (ws_region rfl (wla 0 1 rfl rfl rfl rfl rfl rfl rfl (wl_end rfl (nmk [6] rfl ?_))))
  refine nm_thn (ws_ret hC [_] rfl rfl ⟨rfl, trivial⟩ ?_)
  exact ⟨_, rfl, (S.pick [] [] (by decide) trivial), (by show Value.bool _ = Value.bool _; refine congrArg Value.bool ?_; first | exact (decide_eq_true (ga_ext (by omega) fun i hi => hg i (by omega))).symm | exact (decide_eq_false (fun e => by subst e; omega)).symm | exact (decide_eq_false (fun e => by subst e; simp at hb30)).symm)⟩
 ·replace hb14 := of_decide_eq_false hb14
  refine ws_skip rfl (nmk [0, 1, 2] rfl (nm_thn (ws_seqN EqualFuncP_n11 EqualFuncP_n12 rfl rfl rfl (ws_seqN EqualFuncP_n13 EqualFuncP_n14 rfl rfl rfl ?_))))
  refine ws_region rfl (wlm 0 1 rfl rfl rfl rfl rfl rfl rfl (wlo 1 2 rfl rfl rfl (wo_run rfl rfl (run_len rfl rfl rfl rfl rfl rfl Try.underlying35) (wlm 2 3 rfl rfl rfl rfl rfl rfl rfl (wl_end rfl ?_)))))
  refine nmk [1, 2, 15, 16, 17] rfl (nm_thn (ws_blockN EqualFuncP_n15 0 rfl rfl rfl ?_))
  refine ws_loopE (fun mx_ ax_ wx_ => ∃ (k : Nat), mx_ = pv.length - k ∧ Env 32 [(1, .slice qA qv.length qc), (2, .func (.func 19) #[] #[]), (15, .slice pA pv.length pc), (16, .int .i64 (pv.length : Int)), (17, .int .i64 (k : Int))] ax_ ∧ SH wx_ M X [] ∧ k ≤ pv.length ∧ (∀ j, j < k → ga p j = ga q j)) rfl ?_ ?_
  ·intro ax_ hax_
   refine ⟨_, ⟨0, rfl, hax_.sub ⟨rfl, rfl, rfl, rfl, rfl, trivial⟩, S.pick [] [] (by decide) trivial, ?hq1f0, ?hq1f1⟩⟩
   case hq1f0 => omega
   case hq1f1 => (intro j hj; omega)
  ·rintro m1 a1 w1 ⟨k, rfl, he1, S1, hk, hg⟩
   clear S
   refine ws_in he1 (c := EqualFuncP_n16) rfl ?_
   clear he1 a1
   refine ws_seqN EqualFuncP_n17 EqualFuncP_n18 rfl rfl rfl (ws_region rfl (wlo 0 1 rfl rfl rfl (wo_run rfl rfl (run_lss rfl rfl rfl) (wl_end rfl (nm_thn ?_)))))
   refine ws_seqN EqualFuncP_n19 EqualFuncP_n20 rfl rfl rfl ?_
   refine ws_condN EqualFuncP_n21 EqualFuncP_n22 rfl rfl rfl rfl (fun hb18 => ?_) (fun hb18 => ?_)
   ·replace hb18 := of_decide_eq_true hb18
    refine ws_skip rfl (nmk [1, 2, 15, 16, 17] rfl (nm_thn (ws_seqN EqualFuncP_n23 EqualFuncP_n24 rfl rfl rfl (ws_blockN EqualFuncP_n25 1 rfl rfl rfl ?_))))
    refine ws_seqN EqualFuncP_n26 EqualFuncP_n27 rfl rfl rfl (ws_region rfl (wlm 0 1 rfl rfl rfl rfl rfl rfl rfl (wlo 1 2 rfl rfl rfl (wo_run rfl rfl (run_indexM (C := (cdV 38)) k rfl rfl rfl sl35 (by first | rfl | omega) hp (by first | omega | (simp only [lens]; omega))) ?_))))
    obtain ⟨hn1, hr1⟩ := hdp.2 k (by first | omega | (simp only [lens]; omega))
    have rmhr1 : (ga p k).length * 8 ≤ 140737488355328 := hr1.room
    refine wlo 2 3 rfl rfl rfl (wo_run rfl rfl (run_load1 rfl rfl Try.underlying38 rfl (hp.cell S1.um (i := k) (by first | omega | (simp only [lens]; omega)) 0 rfl (congrArg (fun n => some (Value.slice _ n _)) hn1))) ?_)
    refine wla 3 4 rfl rfl rfl rfl rfl rfl rfl (wla 4 5 rfl rfl rfl rfl rfl rfl rfl (wl_end rfl (nmk [1, 2, 15, 16, 17, 7, 8] rfl (nm_thn ?_))))
    refine ws_seqN EqualFuncP_n28 EqualFuncP_n29 rfl rfl rfl (ws_region rfl (wlm 0 1 rfl rfl rfl rfl rfl rfl rfl (wlm 1 2 rfl rfl rfl rfl rfl rfl rfl (wlo 2 3 rfl rfl rfl (wo_run rfl rfl (run_indexM (C := (cdV 38)) k rfl rfl rfl sl35 (by first | rfl | omega) hq (by first | omega | (simp only [lens]; omega))) ?_)))))
    obtain ⟨hn2, hr2⟩ := hdq.2 k (by first | omega | (simp only [lens]; omega))
    have rmhr2 : (ga q k).length * 8 ≤ 140737488355328 := hr2.room
    refine wlo 3 4 rfl rfl rfl (wo_run rfl rfl (run_load1 rfl rfl Try.underlying38 rfl (hq.cell S1.um (i := k) (by first | omega | (simp only [lens]; omega)) 0 rfl (congrArg (fun n => some (Value.slice _ n _)) hn2))) ?_)
    refine wla 4 5 rfl rfl rfl rfl rfl rfl rfl (wl_end rfl (nmk [1, 2, 15, 16, 17, 8, 9] rfl (nm_thn (ws_seqN EqualFuncP_n30 EqualFuncP_n31 rfl rfl rfl ?_))))
    refine ws_region rfl (wlm 0 1 rfl rfl rfl rfl rfl rfl rfl (wlm 1 2 rfl rfl rfl rfl rfl rfl rfl (wlm 2 3 rfl rfl rfl rfl rfl rfl rfl (wlo 3 4 rfl rfl rfl (wo_cq rfl rfl rfl rfl rfl rfl rfl cf19 S1 (Equal1_q (ga p k) (ga q k) (hr1.mono S1.un_XH) (hr2.mono S1.un_XH) S1.lend) ?_)))))
    rintro _ w2 S2 rfl; clear S1
    refine wlo 4 5 rfl rfl rfl (wo_run rfl rfl (run_not rfl rfl) (wl_end rfl (nmk [1, 2, 15, 16, 17, 30] rfl (nm_thn ?_))))
    refine ws_condN EqualFuncP_n32 EqualFuncP_n33 rfl rfl rfl rfl (fun hb30 => ?_) (fun hb30 => ?_)
    ·simp only [Bool.and_eq_true, Bool.or_eq_true, Bool.and_eq_false_iff, Bool.or_eq_false_iff, decide_eq_true_eq, decide_eq_false_iff_not, Bool.not_eq_true', Bool.not_eq_false'] at hb30
     refine ws_seqN EqualFuncP_n34 EqualFuncP_n35 rfl rfl rfl (ws_region rfl (wla 0 1 rfl rfl rfl rfl rfl rfl rfl (wl_end rfl (nmk [6] rfl ?_))))
     refine nm_thn (ws_ret hC [_] rfl rfl ⟨rfl, trivial⟩ ?_)
     exact ⟨_, rfl, (S2.pick [] [] (by decide) trivial), (by show Value.bool _ = Value.bool _; refine congrArg Value.bool ?_; first | exact (decide_eq_true (ga_ext (by omega) fun i hi => hg i (by omega))).symm | exact (decide_eq_false (fun e => by subst e; omega)).symm | exact (decide_eq_false (fun e => by subst e; simp at hb30)).symm)⟩
    ·simp only [Bool.and_eq_true, Bool.or_eq_true, Bool.and_eq_false_iff, Bool.or_eq_false_iff, decide_eq_true_eq, decide_eq_false_iff_not, Bool.not_eq_true', Bool.not_eq_false'] at hb30
     refine ws_skip rfl (nm_blk (nmk [1, 2, 15, 16, 17] rfl (nm_thn (ws_region rfl ?_))))
     refine wlo 0 1 rfl rfl rfl (wo_run rfl rfl (run_add rfl rfl rfl (by first | omega | (simp only [lens]; omega))) ?_)
     refine wlm 1 2 rfl rfl rfl rfl rfl rfl rfl (wl_end rfl (nm_lp ?_))
     intro ax_ hax_
     refine ⟨_, ?hq2m, ⟨k + 1, rfl, hax_.sub ⟨rfl, rfl, rfl, rfl, rfl, trivial⟩, S2.pick [] [] (by decide) trivial, ?hq2f0, ?hq2f1⟩⟩
     case hq2f0 => omega
     case hq2f1 => (intro j hj; by_cases h : j = k; (subst h; simpa using hb30); exact hg j (by omega))
     case hq2m => omega
   ·replace hb18 := of_decide_eq_false hb18
    refine ws_exit rfl rfl (nm_sub [] trivial (nm_thn (ws_seqN EqualFuncP_n36 EqualFuncP_n37 rfl rfl rfl (ws_region rfl ?_))))
    refine wla 0 1 rfl rfl rfl rfl rfl rfl rfl (wl_end rfl (nm_thn (ws_ret hC [_] rfl rfl ⟨rfl, trivial⟩ ?_)))
    exact ⟨_, rfl, (S1.pick [] [] (by decide) trivial), (by show Value.bool _ = Value.bool _; refine congrArg Value.bool ?_; first | exact (decide_eq_true (ga_ext (by omega) fun i hi => hg i (by omega))).symm | exact (decide_eq_false (fun e => by subst e; omega)).symm | exact (decide_eq_false (fun e => by subst e; simp at hb30)).symm)⟩
noncomputable def Equal_n0 : Code := Try.f9.body.getD .skip
noncomputable def Equal_n1 : Code := cL Equal_n0
noncomputable def Equal_n2 : Code := cR Equal_n0
noncomputable def Equal_n3 : Code := cL Equal_n2
noncomputable def Equal_n4 : Code := cR Equal_n2
noncomputable def Equal_n5 : Code := cL Equal_n3
noncomputable def Equal_n6 : Code := cR Equal_n3
noncomputable def Equal_n7 : Code := cL Equal_n6
noncomputable def Equal_n8 : Code := cR Equal_n6
noncomputable def Equal_n9 : Code := cL Equal_n8
noncomputable def Equal_n10 : Code := cR Equal_n8
noncomputable def Equal_n11 : Code := cL Equal_n9
noncomputable def Equal_n12 : Code := cR Equal_n9
noncomputable def Equal_n13 : Code := cL Equal_n4
noncomputable def Equal_n14 : Code := cR Equal_n4
noncomputable def Equal_n15 : Code := cL Equal_n14
noncomputable def Equal_n16 : Code := cR Equal_n14
noncomputable def Equal_n17 : Code := cL Equal_n16
noncomputable def Equal_n18 : Code := cR Equal_n16
set_option maxRecDepth 10000 in
theorem Equal_t {w : World} {M : Hp} {X : Fr} (n : Int) (p : List Int) {pA : Option Addr} {pc : Nat} (q : List Int) {qA : Option Addr} {qc : Nat} (hp : RdA cdInt (M.un X.h) pA pc p) (hq : RdA cdInt (M.un X.h) qA qc q) (S : SH w M X []) : Ct Try.prog 9 [.int .i64 n, .slice pA p.length pc, .slice qA q.length qc] w M X (fun u _ => EqE n p q u) := by
 unfold Ct
 have rmhp : p.length * 8 ≤ 140737488355328 := hp.room
 have rmhq : q.length * 8 ≤ 140737488355328 := hq.room
 refine calls_in (b := Equal_n0) Try.func9 rfl Try.ntmps9 rfl (fun C hC => (ws_sub [(0, _), (1, _), (2, _)] ⟨rfl, rfl, rfl, trivial⟩ (ws_seqN Equal_n1 Equal_n2 rfl rfl rfl (ws_region rfl (wla 0 1 rfl rfl rfl rfl rfl rfl rfl ?_)))))
 refine wla 1 2 rfl rfl rfl rfl rfl rfl rfl (wl_end rfl (nmk [0, 1, 2] rfl (nm_thn (ws_seqN Equal_n3 Equal_n4 rfl rfl rfl ?_))))
 refine ws_seqN Equal_n5 Equal_n6 rfl rfl rfl (ws_region rfl (wlm 0 1 rfl rfl rfl rfl rfl rfl rfl (wlm 1 2 rfl rfl rfl rfl rfl rfl rfl (wlm 2 3 rfl rfl rfl rfl rfl rfl rfl ?_))))
 refine wlo 3 4 rfl rfl rfl (wo_buildSliceN (C := (cdV 22)) (l := [_, _]) (pl := [(0, 1), (1, 1)]) rfl rfl rfl rfl sl23 rfl rfl rfl rfl rfl S ?_)
 intro gb1 w2 S2; clear S
 have hr1 := S2.lendBoxN (C := (cdV 22)) (zs := [(⟨pA, p.length, pc⟩ : SlV), (⟨qA, q.length, qc⟩ : SlV)]) (i := 0) rfl rfl (by show 2 * _ ≤ _; decide)
 have hd1 := Rd2.at_ (C := cdInt) (ss := [(⟨pA, p.length, pc⟩ : SlV), (⟨qA, q.length, qc⟩ : SlV)]) (xss := [p, q]) S2 ((Rd2.nil_.snoc (hp.mono S2.un_XH)).snoc (hq.mono S2.un_XH))
 have hcall1 := Check_q n [p, q] hr1 hd1 S2.lend
 refine wlo 4 5 rfl rfl rfl (wo_cq rfl rfl rfl rfl rfl rfl rfl cf11 S2 (hcall1) ?_)
 rintro _ w3 S3 rfl; clear S2
 refine wla 5 6 rfl rfl rfl rfl rfl rfl rfl (wl_end rfl (nmk [0, 1, 2, 8] rfl (nm_thn (ws_seqN Equal_n7 Equal_n8 rfl rfl rfl ?_))))
 refine ws_region rfl (wlm 0 1 rfl rfl rfl rfl rfl rfl rfl (wlo 1 2 rfl rfl rfl (wo_run rfl rfl (run_neq rfl rfl rfl) (wl_end rfl (nmk [0, 1, 2, 8, 19] rfl ?_)))))
 refine nm_thn ?_
 refine ws_condN Equal_n9 Equal_n10 rfl rfl rfl rfl (fun hb19 => ?_) (fun hb19 => ?_)
 ·replace hb19 := of_decide_eq_true hb19
  refine ws_seqN Equal_n11 Equal_n12 rfl rfl rfl (ws_region rfl (wlm 0 1 rfl rfl rfl rfl rfl rfl rfl (wla 1 2 rfl rfl rfl rfl rfl rfl rfl (wla 2 3 rfl rfl rfl rfl rfl rfl rfl ?_))))
  refine wl_end rfl (nmk [6, 7] rfl (nm_thn (ws_ret hC [_, _] rfl rfl ⟨rfl, rfl, trivial⟩ ?_)))
  refine ⟨_, rfl, _, Hp.le_refl _, (S3.pick [] [] (by decide) trivial), ?_⟩
  exact ⟨fun _ => rfl, fun h9 => absurd h9 (by omega)⟩
 ·replace hb19 := of_decide_eq_false hb19
  have hck : checkI n [p, q] = 0 := by omega
  obtain ⟨hn2, hn6, hpl, hql, hwp0, hwq0⟩ := check_ok2 hck
  obtain ⟨m, hnm⟩ : ∃ m : Nat, n = (m : Int) := ⟨n.toNat, by omega⟩
  have hwp : lok m p := fun i hi => by rw [← hnm]; exact hwp0 i hi
  have hwq : lok m q := fun i hi => by rw [← hnm]; exact hwq0 i hi
  have hm : m ≤ 6 := by omega
  have hm2 : 2 ≤ m := by omega
  refine ws_skip rfl (nmk [0, 1, 2] rfl (nm_thn (ws_seqN Equal_n13 Equal_n14 rfl rfl rfl (ws_eq 0 (.int .i64 (m : Int)) rfl (int_eq hnm) ?_))))
  refine ws_region rfl (wlm 0 1 rfl rfl rfl rfl rfl rfl rfl (wlm 1 2 rfl rfl rfl rfl rfl rfl rfl (wlo 2 3 rfl rfl rfl (wo_ct rfl rfl rfl rfl rfl rfl rfl cf12 S3 (normal_t m p (hp.mono S3.un_XH) ((by omega)) ((by omega)) ((by omega)) (hwp) S3.lend) ?_))))
  intro vw4 w4 M1 hle1 S4 hRw4; clear S3
  replace hp := hp.mono (Hp.un_mono hle1 S4.mx)
  replace hq := hq.mono (Hp.un_mono hle1 S4.mx)
  obtain ⟨z24, An24, cn24, vn24, ys24, rfl, hry24, hdy24, hNf24⟩ := hRw4
  refine wlm 3 4 rfl rfl rfl rfl rfl rfl rfl (wlo 4 5 rfl rfl rfl (wo_run rfl rfl (run_extract rfl rfl rfl) (wlo 5 6 rfl rfl rfl (wo_run rfl rfl (run_extract rfl rfl rfl) (wla 6 7 rfl rfl rfl rfl rfl rfl rfl (wla 7 8 rfl rfl rfl rfl rfl rfl rfl ?_))))))
  refine wl_end rfl (nmk [0, 2, 9, 10] rfl (nm_thn (ws_seqN Equal_n15 Equal_n16 rfl rfl rfl (ws_region rfl ?_))))
  refine wlm 0 1 rfl rfl rfl rfl rfl rfl rfl (wlm 1 2 rfl rfl rfl rfl rfl rfl rfl (wlo 2 3 rfl rfl rfl (wo_ct rfl rfl rfl rfl rfl rfl rfl cf12 S4 (normal_t m q (hq.mono S4.un_XH) ((by omega)) ((by omega)) ((by omega)) (hwq) S4.lend) ?_)))
  intro vw5 w5 M2 hle2 S5 hRw5; clear S4
  replace hp := hp.mono (Hp.un_mono hle2 S5.mx)
  replace hq := hq.mono (Hp.un_mono hle2 S5.mx)
  replace hry24 := hry24.mono hle2
  replace hdy24 := hdy24.mono hle2
  obtain ⟨z30, An30, cn30, vn30, ys30, rfl, hry30, hdy30, hNf30⟩ := hRw5
  refine wlm 3 4 rfl rfl rfl rfl rfl rfl rfl (wlo 4 5 rfl rfl rfl (wo_run rfl rfl (run_extract rfl rfl rfl) (wlo 5 6 rfl rfl rfl (wo_run rfl rfl (run_extract rfl rfl rfl) (wla 6 7 rfl rfl rfl rfl rfl rfl rfl (wla 7 8 rfl rfl rfl rfl rfl rfl rfl ?_))))))
  refine wl_end rfl (nmk [9, 10, 11, 12] rfl (nm_thn (ws_seqN Equal_n17 Equal_n18 rfl rfl rfl (ws_region rfl ?_))))
  refine wlm 0 1 rfl rfl rfl rfl rfl rfl rfl (wlm 1 2 rfl rfl rfl rfl rfl rfl rfl (wlo 2 3 rfl rfl rfl (wo_run rfl rfl (run_eql rfl rfl rfl) (wlm 3 4 rfl rfl rfl rfl rfl rfl rfl ?_))))
  refine wl_split (t := 36) rfl (fun hg36 => ?_) (fun hg36 => ?_)
  ·replace hg36 := of_decide_eq_true hg36
   refine wlg 4 5 rfl rfl rfl rfl rfl rfl rfl rfl (wo_run rfl rfl (run_move rfl rfl) (wlg 5 6 rfl rfl rfl rfl rfl rfl rfl rfl (wo_run rfl rfl (run_move rfl rfl) (wlg 6 7 rfl rfl rfl rfl rfl rfl rfl rfl (wo_cq rfl rfl rfl rfl rfl rfl rfl cf18 S5 (EqualFuncP_q ys24 ys30 (hry24.mono (Hp.le_un _ _)) (hdy24.mono (Hp.le_un _ _)) (hry30.mono (Hp.le_un _ _)) (hdy30.mono (Hp.le_un _ _)) S5.lend) ?_)))))
   rintro _ w6 S6 rfl; clear S5
   refine wlo 7 8 rfl rfl rfl (wo_run rfl rfl (run_pickT rfl rfl rfl) (wla 8 9 rfl rfl rfl rfl rfl rfl rfl (wla 9 10 rfl rfl rfl rfl rfl rfl rfl (wl_end rfl (nmk [6, 7] rfl ?_)))))
   refine nm_thn (ws_ret hC [_, _] rfl rfl ⟨rfl, rfl, trivial⟩ ?_)
   refine ⟨_, rfl, _, hle1.trans hle2, (S6.pick [] [] (by decide) trivial), ?_⟩
   refine ⟨fun h9 => absurd hck h9, fun _ => ?_⟩
   have h8 := nf_same hm2 hNf24 hNf30 hwp.okW_ hwq.okW_
   rw [hnm, Int.toNat_natCast]
   have h7 : decide (ys24 = ys30) = decide (actP m p = actP m q) := decide_eq_decide.2 ⟨fun e => h8.1 ⟨hg36, e⟩, fun e => (h8.2 e).2⟩
   rw [h7]
  ·replace hg36 := of_decide_eq_false hg36
   refine wln 4 5 rfl rfl rfl rfl rfl rfl rfl rfl rfl (wln 5 6 rfl rfl rfl rfl rfl rfl rfl rfl rfl (wln 6 7 rfl rfl rfl rfl rfl rfl rfl rfl rfl (wlo 7 8 rfl rfl rfl (wo_run rfl rfl (run_pickF rfl rfl rfl) (wla 8 9 rfl rfl rfl rfl rfl rfl rfl ?_)))))
   refine wla 9 10 rfl rfl rfl rfl rfl rfl rfl (wl_end rfl (nmk [6, 7] rfl (nm_thn (ws_ret hC [_, _] rfl rfl ⟨rfl, rfl, trivial⟩ ?_))))
   refine ⟨_, rfl, _, hle1.trans hle2, (S5.pick [] [] (by decide) trivial), ?_⟩
   refine ⟨fun h9 => absurd hck h9, fun _ => ?_⟩
   have h8 := nf_same hm2 hNf24 hNf30 hwp.okW_ hwq.okW_
   rw [hnm, Int.toNat_natCast, decide_eq_false (fun e => hg36 (h8.2 e).1)]
theorem EqE.some_ {n : Int} {p q : List Int} {u : Value} (h : EqE n p q u) : ∃ (b : Bool) (e : Int), u = tup [.bool b, .int .i64 e] ∧ e = checkI n [p, q] ∧ b = (if checkI n [p, q] = 0 then decide (actP n.toNat p = actP n.toNat q) else false) := by
 by_cases c : checkI n [p, q] = 0
 ·exact ⟨_, _, h.2 c, c.symm, (if_pos c).symm⟩
 ·exact ⟨_, _, h.1 c, rfl, (if_neg c).symm⟩
noncomputable def BraidEquals_n0 : Code := Try.f4.body.getD .skip
noncomputable def BraidEquals_n1 : Code := cL BraidEquals_n0
noncomputable def BraidEquals_n2 : Code := cR BraidEquals_n0
noncomputable def BraidEquals_n3 : Code := cL BraidEquals_n2
noncomputable def BraidEquals_n4 : Code := cR BraidEquals_n2
noncomputable def BraidEquals_n5 : Code := cL BraidEquals_n4
noncomputable def BraidEquals_n6 : Code := cR BraidEquals_n4
noncomputable def BraidEquals_n7 : Code := cL BraidEquals_n6
noncomputable def BraidEquals_n8 : Code := cR BraidEquals_n6
noncomputable def BraidEquals_n9 : Code := cL BraidEquals_n7
noncomputable def BraidEquals_n10 : Code := cR BraidEquals_n7
noncomputable def BraidEquals_n11 : Code := cL BraidEquals_n10
noncomputable def BraidEquals_n12 : Code := cR BraidEquals_n10
noncomputable def BraidEquals_n13 : Code := cL BraidEquals_n11
noncomputable def BraidEquals_n14 : Code := cR BraidEquals_n11
noncomputable def BraidEquals_n15 : Code := cL BraidEquals_n8
noncomputable def BraidEquals_n16 : Code := cR BraidEquals_n8
set_option maxRecDepth 10000 in
theorem BraidEquals_t {w : World} {M : Hp} {X : Fr} (n : Int) (p : List Int) {pA : Option Addr} {pc : Nat} (q : List Int) {qA : Option Addr} {qc : Nat} (hp : RdA cdInt M pA pc p) (hq : RdA cdInt M qA qc q) (hrm9 : (p.length + q.length) * 8 ≤ 140737488355328) (S : SH w M X []) : Ct Try.prog 4 [.int .i64 n, .slice pA p.length pc, .slice qA q.length qc] w M X (fun u _ => u = .bool true) := by
 unfold Ct
 have rmhp : p.length * 8 ≤ 140737488355328 := hp.room
 have rmhq : q.length * 8 ≤ 140737488355328 := hq.room
 refine calls_in (b := BraidEquals_n0) Try.func4 rfl Try.ntmps4 rfl (fun C hC => (ws_sub [(0, _), (1, _), (2, _)] ⟨rfl, rfl, rfl, trivial⟩ (ws_seqN BraidEquals_n1 BraidEquals_n2 rfl rfl rfl (ws_region rfl (wla 0 1 rfl rfl rfl rfl rfl rfl rfl ?_)))))
 refine wl_end rfl (nmk [0, 1, 2] rfl (nm_thn (ws_seqN BraidEquals_n3 BraidEquals_n4 rfl rfl rfl (ws_region rfl ?_))))
 refine wlm 0 1 rfl rfl rfl rfl rfl rfl rfl (wlm 1 2 rfl rfl rfl rfl rfl rfl rfl (wlo 2 3 rfl rfl rfl (wo_ct rfl rfl rfl rfl rfl rfl rfl cf6 S (ints_t p (hp.mono (Hp.le_un _ _)) S.lend) ?_)))
 intro vw1 w1 M1 hle1 S1 hRw1; clear S
 replace hp := hp.mono hle1
 replace hq := hq.mono hle1
 obtain ⟨A1, c1, rfl, hr1⟩ := hRw1
 refine wlm 3 4 rfl rfl rfl rfl rfl rfl rfl (wlo 4 5 rfl rfl rfl (wo_ct rfl rfl rfl rfl rfl rfl rfl cf6 S1 (ints_t q (hq.mono (Hp.le_un _ _)) S1.lend) ?_))
 intro vw2 w2 M2 hle2 S2 hRw2; clear S1
 replace hp := hp.mono hle2
 replace hq := hq.mono hle2
 replace hr1 := hr1.mono hle2
 obtain ⟨A2, c2, rfl, hr2⟩ := hRw2
 refine wlo 5 6 rfl rfl rfl (wo_ct rfl rfl rfl rfl rfl rfl rfl cf9 S2 (Equal_t n p q (hr1.mono (Hp.le_un _ _)) (hr2.mono (Hp.le_un _ _)) S2.lend) ?_)
 intro vw3 w3 M3 hle3 S3 hRw3; clear S2
 replace hp := hp.mono hle3
 replace hq := hq.mono hle3
 replace hr1 := hr1.mono hle3
 replace hr2 := hr2.mono hle3
 obtain ⟨b9, e9, hve, hb1, hb2⟩ := EqE.some_ hRw3
 subst hve
 refine wlm 6 7 rfl rfl rfl rfl rfl rfl rfl (wlo 7 8 rfl rfl rfl (wo_run rfl rfl (run_extract rfl rfl rfl) (wlo 8 9 rfl rfl rfl (wo_run rfl rfl (run_extract rfl rfl rfl) (wla 9 10 rfl rfl rfl rfl rfl rfl rfl (wla 10 11 rfl rfl rfl rfl rfl rfl rfl ?_))))))
 refine wl_end rfl (nmk [0, 1, 2, 7, 8] rfl (nm_thn (ws_seqN BraidEquals_n5 BraidEquals_n6 rfl rfl rfl (ws_region rfl ?_))))
 refine wlm 0 1 rfl rfl rfl rfl rfl rfl rfl (wlm 1 2 rfl rfl rfl rfl rfl rfl rfl (wlm 2 3 rfl rfl rfl rfl rfl rfl rfl (wlo 3 4 rfl rfl rfl (wo_cq rfl rfl rfl rfl rfl rfl rfl cf7 S3 (WordsMay_q n p q (hp.mono (Hp.le_un _ _)) (hq.mono (Hp.le_un _ _)) (hrm9) S3.lend) ?_))))
 rintro _ w4 S4 rfl; clear S3
 refine wla 4 5 rfl rfl rfl rfl rfl rfl rfl (wl_end rfl (nmk [0, 1, 2, 7, 8, 9] rfl (nm_thn (ws_seqN BraidEquals_n7 BraidEquals_n8 rfl rfl rfl ?_))))
 refine ws_seqN BraidEquals_n9 BraidEquals_n10 rfl rfl rfl (ws_region rfl (wlm 0 1 rfl rfl rfl rfl rfl rfl rfl (wlo 1 2 rfl rfl rfl (wo_run rfl rfl (run_neq rfl rfl rfl) (wl_end rfl ?_)))))
 refine nmk [0, 1, 2, 7, 8, 9, 24] rfl (nm_thn ?_)
 refine ws_condN BraidEquals_n11 BraidEquals_n12 rfl rfl rfl rfl (fun hb24 => ?_) (fun hb24 => ?_)
 ·replace hb24 := of_decide_eq_true hb24
  have hmc := mayI_check2 n p q
  have hbf : b9 = false := by rw [hb2, if_neg (by omega)]
  refine ws_seqN BraidEquals_n13 BraidEquals_n14 rfl rfl rfl (ws_region rfl (wlm 0 1 rfl rfl rfl rfl rfl rfl rfl (wlm 1 2 rfl rfl rfl rfl rfl rfl rfl (wlo 2 3 rfl rfl rfl (wo_run rfl rfl (run_eql rfl rfl rfl) ?_)))))
  refine wlm 3 4 rfl rfl rfl rfl rfl rfl rfl ?_
  refine wl_split (t := 28) rfl (fun hg28 => ?_) (fun hg28 => ?_)
  ·replace hg28 := of_decide_eq_true hg28
   refine wlg 4 5 rfl rfl rfl rfl rfl rfl rfl rfl (wo_run rfl rfl (run_move rfl rfl) (wlg 5 6 rfl rfl rfl rfl rfl rfl rfl rfl (wo_run rfl rfl (run_not rfl rfl) (wlo 6 7 rfl rfl rfl (wo_run rfl rfl (run_pickT rfl rfl rfl) (wla 7 8 rfl rfl rfl rfl rfl rfl rfl (wl_end rfl ?_)))))))
   refine nmk [6] rfl (nm_thn (ws_ret hC [_] rfl rfl ⟨rfl, trivial⟩ ?_))
   refine ⟨_, rfl, _, (hle1.trans hle2).trans hle3, (S4.pick [] [] (by decide) trivial), ?_⟩
   show Value.bool _ = Value.bool _
   refine congrArg Value.bool ?_
   first | (rw [hbf]; rfl) | (rw [hbt]; simp)
  ·replace hg28 := of_decide_eq_false hg28
   exfalso; omega
 ·replace hb24 := of_decide_eq_false hb24
  have hmc := mayI_check2 n p q
  have hck : checkI n [p, q] = 0 := by omega
  obtain ⟨hn2, hn6, hpl, hql, hwp0, hwq0⟩ := check_ok2 hck
  obtain ⟨m, hnm⟩ : ∃ m : Nat, n = (m : Int) := ⟨n.toNat, by omega⟩
  have hwp : lok m p := fun i hi => by rw [← hnm]; exact hwp0 i hi
  have hwq : lok m q := fun i hi => by rw [← hnm]; exact hwq0 i hi
  have hm : m ≤ 6 := by omega
  have hm2 : 2 ≤ m := by omega
  have hbt : b9 = decide (actP m p = actP m q) := by rw [hb2, if_pos hck, hnm, Int.toNat_natCast]
  refine ws_skip rfl (nmk [0, 1, 2, 7, 8] rfl (nm_thn (ws_seqN BraidEquals_n15 BraidEquals_n16 rfl rfl rfl (ws_eq 0 (.int .i64 (m : Int)) rfl (int_eq hnm) ?_))))
  refine ws_region rfl (wlm 0 1 rfl rfl rfl rfl rfl rfl rfl (wlo 1 2 rfl rfl rfl (wo_run rfl rfl (run_eql rfl rfl rfl) (wlm 2 3 rfl rfl rfl rfl rfl rfl rfl ?_))))
  refine wl_split (t := 34) rfl (fun hg34 => ?_) (fun hg34 => ?_)
  ·replace hg34 := of_decide_eq_true hg34
   refine wlg 3 4 rfl rfl rfl rfl rfl rfl rfl rfl (wo_run rfl rfl (run_move rfl rfl) (wlg 4 5 rfl rfl rfl rfl rfl rfl rfl rfl (wo_run rfl rfl (run_move rfl rfl) (wlg 5 6 rfl rfl rfl rfl rfl rfl rfl rfl (wo_run rfl rfl (run_move rfl rfl) (wlg 6 7 rfl rfl rfl rfl rfl rfl rfl rfl (wo_run rfl rfl (run_move rfl rfl) (wlg 7 8 rfl rfl rfl rfl rfl rfl rfl rfl (wo_ct rfl rfl rfl rfl rfl rfl rfl cf10 S4 (SameActs_t m p q (hp.mono (Hp.le_un _ _)) (hq.mono (Hp.le_un _ _)) (hm) ((by omega)) ((by omega)) (hwp) (hwq) ((BdW.short hm hwp hpl)) ((BdW.short hm hwq hql)) S4.lend) ?_)))))))))
   intro vw5 w5 M4 hle4 S5 hRw5; clear S4
   replace hp := hp.mono hle4
   replace hq := hq.mono hle4
   replace hr1 := hr1.mono hle4
   replace hr2 := hr2.mono hle4
   subst hRw5
   refine wlg 8 9 rfl rfl rfl rfl rfl rfl rfl rfl (wo_run rfl rfl (run_beq rfl rfl rfl Try.underlying4) (wlo 9 10 rfl rfl rfl (wo_run rfl rfl (run_pickT rfl rfl rfl) (wla 10 11 rfl rfl rfl rfl rfl rfl rfl (wl_end rfl (nmk [6] rfl ?_))))))
   refine nm_thn (ws_ret hC [_] rfl rfl ⟨rfl, trivial⟩ ?_)
   refine ⟨_, rfl, _, ((hle1.trans hle2).trans hle3).trans hle4, (S5.pick [] [] (by decide) trivial), ?_⟩
   show Value.bool _ = Value.bool _
   refine congrArg Value.bool ?_
   first | (rw [hbf]; rfl) | (rw [hbt]; simp)
  ·replace hg34 := of_decide_eq_false hg34
   exfalso; omega
end Go.Proofs.Ytomcgmialkdcbaa
