/- From the old contracts to the new ones: diagrams. -/
import Derived.Test.YtlbpgnimpcflaaaEd
import Derived.Test.YtlbpgnimpcflaaaSam
import Derived.Test.YtlbpgnimpcflaaaShp3
namespace Go.Proofs.Ytlbpgnimpcflaaa
open Go.ChangeShapes Go.WideShapes Go.ChangeAt Go.RowKit

def cdPl : Cd (Nat × Nat) := ⟨plF, 2, 16, 84, (0, 0), fun _ => rfl, by
  intro x u hu
  simp [plF] at hu
  rcases hu with rfl | rfl <;> rfl⟩

section
variable {w w' : World} {M : Hp} {X : Fr} {H H' : List Rs}
theorem Kp.like (h : Kp w w') : Like w w' := ⟨h.os, h.tape, h.output, h.size⟩
theorem SH.old (S : SH w M X H) (h : Kp w w') : SH w' M X H := S.kp h.like fun b hb => h.block b hb
theorem SH.adopt {r : Rs} (S : SH w M X []) (S' : SH w' M X H') (hr : r.ok (hp w')) (hb : ∀ b ∈ r.bl, w.heap.size ≤ b ∧ b < w'.heap.size) (hdis : ∀ s ∈ H', ∀ b ∈ r.bl, b ∉ s.bl) : SH w' M X (r :: H') := by
  have fresh : ∀ b, w.heap.size ≤ b → M b = none ∧ X.h b = none := fun b hge => by
    constructor
    · cases hm : M b with
      | none => rfl
      | some o => have := hp_lt (S.m b o hm); omega
    · cases hm : X.h b with
      | none => rfl
      | some o => have := hp_lt (S.x b o hm); omega
  refine ⟨S'.m, S'.x, S'.mx, fun s hs => ?_, fun s hs b hbs => ?_, fun j k s t hjk hs ht b hbs => ?_, S'.like⟩
  · rcases List.mem_cons.1 hs with rfl | hs
    · exact hr
    · exact S'.ok s hs
  · rcases List.mem_cons.1 hs with rfl | hs
    · exact ⟨(hb b hbs).2, fresh b (hb b hbs).1⟩
    · exact S'.bl s hs b hbs
  · cases j with
    | zero =>
      cases k with
      | zero => exact absurd rfl hjk
      | succ k =>
        simp only [List.getElem?_cons_zero, Option.some.injEq, List.getElem?_cons_succ] at hs ht
        subst hs
        exact hdis t (List.mem_of_getElem? ht) b hbs
    | succ j =>
      cases k with
      | zero =>
        simp only [List.getElem?_cons_zero, Option.some.injEq, List.getElem?_cons_succ] at hs ht
        subst ht
        exact fun hbt => hdis s (List.mem_of_getElem? hs) b hbt hbs
      | succ k =>
        simp only [List.getElem?_cons_succ] at hs ht
        exact S'.ap j k s t (by omega) hs ht b hbs
/-- A diagram, as the old texts read it. -/
theorem RdA.dg {N : Hp} {A : Option Addr} {c : Nat} {d : Dg} (h : RdA cdCr N A c d.crs) (hN : N.le (hp w)) : IsDg w w.heap.size (.agg [.slice A d.crs.length c, .int .i64 d.loops].toArray) d := by
  refine ⟨A, c, rfl, h.1, ⟨flat_len codCr.hf _, h.2.1, fun h0 => ?_⟩⟩
  have hlen : 0 < d.crs.length := by simpa using h0
  obtain ⟨e, cs, T, fz, hc, _⟩ := h.2.2 hlen
  refine ⟨adB A, adO A, e, hp_lt (hN _ _ hc), fun j u hu => ?_⟩
  exact h.cells hN j u hu
theorem cq_bool {f : FuncId} {vs : List Value} {b : Bool} (S : SH w M X []) (h : Calls Try.prog f vs.toArray w (BoPost b w)) : Cq Try.prog f vs w M X (fun u => u = .bool b) :=
  h.mono fun e w' ⟨he, hk⟩ => ⟨_, he, S.old hk, rfl⟩
theorem cq_int {f : FuncId} {vs : List Value} {b : Int} (S : SH w M X []) (h : Calls Try.prog f vs.toArray w (IntPost b w)) : Cq Try.prog f vs w M X (fun u => u = .int .i64 b) :=
  h.mono fun e w' ⟨he, hk⟩ => ⟨_, he, S.old hk, rfl⟩
theorem DiagramMay_q (d : Dg) {A : Option Addr} {c : Nat} (h : RdA cdCr (M.un X.h) A c d.crs) (S : SH w M X []) : Cq Try.prog 17 [.agg [.slice A d.crs.length c, .int .i64 d.loops].toArray] w M X (fun u => u = .bool (mayB d)) :=
  cq_bool S (diagramMay_any _ d w (h.dg S.um))
theorem SameDiagram_q (d : Dg) {A B : Option Addr} {c e : Nat} (h : RdA cdCr (M.un X.h) A c d.crs) (k : RdA cdCr (M.un X.h) B e d.crs) (S : SH w M X []) : Cq Try.prog 14 [.agg [.slice A d.crs.length c, .int .i64 d.loops].toArray, .agg [.slice B d.crs.length e, .int .i64 d.loops].toArray] w M X (fun u => u = .bool true) :=
  (sameDg _ _ d w (h.dg S.um) (k.dg S.um)).mono fun e w' ⟨he, hk⟩ => ⟨_, he, S.old hk, rfl⟩
end

def ShV (d : Dg) (vi vo : Value) : Prop := ∃ gi go, vi = .slice (some ⟨gi, 0, none⟩) (2 * d.crs.length + 1) (2 * d.crs.length + 1) ∧ vo = .slice (some ⟨go, 0, none⟩) (2 * d.crs.length + 1) (2 * d.crs.length + 1) ∧ gi ≠ go
def NewR (d : Dg) (v : Value) (N : List Rs) : Prop :=
  (mayB d = false ∧ v = .tuple [.pointer none, .bool false].toArray ∧ N = []) ∨
  (mayB d = true ∧ ∃ g vc vi vo, v = .tuple [.pointer (some ⟨g, 0, none⟩), .bool true].toArray ∧
    N = [Rs.box g 81 [vc, .int .i64 d.loops, vi, vo], Rs.row cdCr vc d.crs, Rs.row cdPl vi (tabL d false (4 * d.crs.length)), Rs.row cdPl vo (tabL d true (4 * d.crs.length))] ∧ ShV d vi vo)
/-- The diagram at work, as the old texts read it. -/
theorem SH.isSh {w : World} {M : Hp} {X : Fr} {H : List Rs} {i j k l g : Nat} {vc vi vo : Value} {d : Dg} (S : SH w M X H) (h0 : nth H i = some (Rs.box g 81 [vc, .int .i64 d.loops, vi, vo])) (h1 : nth H j = some (Rs.row cdCr vc d.crs)) (h2 : nth H k = some (Rs.row cdPl vi (tabL d false (4 * d.crs.length))))
    (h3 : nth H l = some (Rs.row cdPl vo (tabL d true (4 * d.crs.length)))) (hv : ShV d vi vo) : IsSh w 0 (.pointer (some ⟨g, 0, none⟩)) d := by
  obtain ⟨gi, go, rfl, rfl, hne⟩ := hv
  obtain ⟨A, c, rfl, hc⟩ := S.sl h1
  have t1 : (tabL d false (4 * d.crs.length)).length = 2 * d.crs.length + 1 := tabL_len _ _ _
  have t2 : (tabL d true (4 * d.crs.length)).length = 2 * d.crs.length + 1 := tabL_len _ _ _
  have o2 := RowOk.owns (S.get h2 : RowOk cdPl _ _ (hp w))
  have o3 := RowOk.owns (S.get h3 : RowOk cdPl _ _ (hp w))
  exact ⟨g, A, c, gi, go, rfl, Nat.zero_le _, hne, S.get h0, RowOk.owns (S.get h1 : RowOk cdCr _ _ (hp w)), o2, o3⟩
theorem bl_row {α : Type} {C : Cd α} {v : Value} {xs : List α} {b : Nat} (h : b ∈ (Rs.row C v xs).bl) : v.ownBlock = some b := by simpa [Rs.row] using h
theorem New_o {w : World} {M : Hp} {X : Fr} (d : Dg) {A : Option Addr} {c : Nat} (h : RdA cdCr (M.un X.h) A c d.crs) (S : SH w M X []) : Co Try.prog 53 [.agg [.slice A d.crs.length c, .int .i64 d.loops].toArray] w M X (NewR d) := by
  refine (new_any _ d w (h.dg S.um)).mono ?_
  rintro e w' (⟨hm, rfl, hk⟩ | ⟨hm, v, rfl, hk, g, B, cp, gi, go, rfl, hg, hne, hb, hc, hi, ho⟩)
  · exact ⟨_, rfl, [], S.old hk, .inl ⟨hm, rfl, rfl⟩⟩
  · have hci := hc.ne_ hi (by decide)
    have hco := hc.ne_ ho (by decide)
    have hcb := hc.ne_blk hb (by decide)
    have hib := hi.ne_blk hb (by decide)
    have hob := ho.ne_blk hb (by decide)
    have S0 := S.old hk
    have S1 : SH w' M X [Rs.row cdPl (.slice (some ⟨go, 0, none⟩) (2 * d.crs.length + 1) (2 * d.crs.length + 1)) (tabL d true (4 * d.crs.length))] :=
      S.adopt S0 (RowOk.of_owns (C := cdPl) (ho.base (Nat.zero_le _))) (fun b hb => ho.lt b (bl_row hb)) (by simp)
    have S2 := S.adopt S1 (r := Rs.row cdPl (.slice (some ⟨gi, 0, none⟩) (2 * d.crs.length + 1) (2 * d.crs.length + 1)) (tabL d false (4 * d.crs.length)))
      (RowOk.of_owns (C := cdPl) (hi.base (Nat.zero_le _))) (fun b hb => hi.lt b (bl_row hb)) (fun s hs b hb hbs => by
        rw [List.mem_singleton] at hs
        subst hs
        have h1 := bl_row hb
        have h2 := bl_row hbs
        simp only [Value.ownBlock, Option.some.injEq] at h1 h2
        omega)
    have S3 := S.adopt S2 (r := Rs.row cdCr (.slice B d.crs.length cp) d.crs) (RowOk.of_owns (C := cdCr) (hc.base (Nat.zero_le _))) (fun b hb => hc.lt b (bl_row hb)) (fun s hs b hb hbs => by
        have h1 := bl_row hb
        rcases List.mem_cons.1 hs with rfl | hs
        · rcases hci with h | h
          · rw [h] at h1; cases h1
          · exact h (h1.trans (bl_row hbs).symm)
        · rw [List.mem_singleton] at hs
          subst hs
          rcases hco with h | h
          · rw [h] at h1; cases h1
          · exact h (h1.trans (bl_row hbs).symm))
    have S4 := S.adopt S3 (r := Rs.box g 81 [.slice B d.crs.length cp, .int .i64 d.loops, .slice (some ⟨gi, 0, none⟩) (2 * d.crs.length + 1) (2 * d.crs.length + 1), .slice (some ⟨go, 0, none⟩) (2 * d.crs.length + 1) (2 * d.crs.length + 1)])
      hb (fun b hb' => by simp [Rs.box] at hb'; subst hb'; exact ⟨hg, hb.lt⟩) (fun s hs b hb' hbs => by
        simp [Rs.box] at hb'
        subst hb'
        rcases List.mem_cons.1 hs with rfl | hs
        · rcases hcb with h | h
          · have := bl_row hbs; rw [h] at this; cases this
          · exact h (bl_row hbs)
        · rcases List.mem_cons.1 hs with rfl | hs
          · rcases hib with h | h
            · have := bl_row hbs; rw [h] at this; cases this
            · exact h (bl_row hbs)
          · rw [List.mem_singleton] at hs
            subst hs
            rcases hob with h | h
            · have := bl_row hbs; rw [h] at this; cases this
            · exact h (bl_row hbs))
    exact ⟨_, rfl, _, S4, .inr ⟨hm, g, _, _, _, rfl, rfl, gi, go, rfl, rfl, hne⟩⟩
end Go.Proofs.Ytlbpgnimpcflaaa
