/- The calls of the law on the order of summaries, told of summaries that lie in cells. No conditions. -/
import Derived.Test.YtgemcomcjojjbaaPSx7
import Derived.Test.YtgemcomcjojjbaaHOrdS
import Derived.Test.YtgemcomcjojjbaaHFixed
namespace Go.Proofs.Ytgemcomcjojjbaa.PS
open Go.RowKit Go.Proofs.YtgemcomcjojjbaaW.PrintWords Go.Proofs.YtgemcomcjojjbaaW.PrintLast Go.Proofs.YtgemcomcjojjbaaW.PrintMore
set_option linter.unusedVariables false
set_option linter.unusedSimpArgs false

/-- A summary that lies in a cell. -/
structure SumC (w : World) (g : Nat) (A0 : Option Addr) (c0 : Nat) (A1 : Option Addr) (c1 : Nat) (S : S31) : Prop where
  blk : w.heap[g]? = some (.cells #[.slice A0 S.f0.length c0, .slice A1 S.f1.length c1] 31 (0, 0))
  l0 : S.f0.length ≤ c0
  h0 : kI.C w A0 S.f0.length S.f0
  l1 : S.f1.length ≤ c1
  h1 : kL.C w A1 S.f1.length S.f1
section
variable {w w' : World} {g : Nat} {A0 A1 : Option Addr} {c0 c1 : Nat} {S : S31}
theorem SumC.below (h : SumC w g A0 c0 A1 c1 S) (hb : Below w.heap.size w w') : SumC w' g A0 c0 A1 c1 S := ⟨blk_below h.blk hb, h.l0, Kd.C_below h.h0 hb, h.l1, Kd.C_below h.h1 hb⟩
theorem SumC.cell0 (h : SumC w g A0 c0 A1 c1 S) : w.cell? ⟨g, 0, none⟩ = some (.slice A0 S.f0.length c0) := (blk_cell h.blk 0).trans rfl
theorem SumC.cell1 (h : SumC w g A0 c0 A1 c1 S) : w.cell? ⟨g, 1, none⟩ = some (.slice A1 S.f1.length c1) := (blk_cell h.blk 1).trans rfl
end
theorem flat_le {P R : Int} {S : S31} (h : rightS P R S = true) (hs : shapeS P R = true) : (flat S).length ≤ 40 := by
  obtain ⟨h1, h2, h3, h4⟩ := right_lens h hs
  have gen : ∀ (y : List (List Int)), (∀ r ∈ y, r.length ≤ 4) → y.flatten.length ≤ 4 * y.length := by
    intro y
    induction y with
    | nil => intro _; simp
    | cons r y ih =>
      intro hr
      have e1 := hr r (List.mem_cons_self)
      have e2 := ih (fun t ht => hr t (List.mem_cons_of_mem _ ht))
      rw [List.flatten_cons, List.length_append, List.length_cons]
      omega
  have := gen S.f1 (fun r hr => by obtain ⟨q, hq, e⟩ := List.getElem_of_mem hr; rw [← e]; exact h4 q hq)
  unfold flat
  rw [List.length_append]
  omega
theorem rows_bd {P R : Int} {S : S31} (h : rightS P R S = true) (hs : shapeS P R = true) : (1 + S.f1.length) * 24 ≤ 140737488355328 := by
  obtain ⟨h1, h2, h3, h4⟩ := right_lens h hs
  omega
theorem pairs_bd {P R : Int} {a b : S31} (ha : rightS P R a = true) (hb : rightS P R b = true) (hs : shapeS P R = true) : (pairsS a b).length * 8 ≤ 140737488355328 := by
  rw [pairs_flat ha hb, List.length_zip]
  have := flat_le ha hs
  omega
section
variable {P R : Int} {X Y : S31} {gX gY : Nat} {A0 A1 B0 B1 : Option Addr} {c0 c1 d0 d1 : Nat} {w : World}
theorem aboveC (hX : SumC w gX A0 c0 A1 c1 X) (hY : SumC w gY B0 d0 B1 d1 Y) (rX : rightS P R X = true) (rY : rightS P R Y = true) (hs : shapeS P R = true) {v : Bool} (hv : aboveS X Y = v) : Calls Try.prog 10 #[.agg #[.slice A0 X.f0.length c0, .slice A1 X.f1.length c1], .agg #[.slice B0 Y.f0.length d0, .slice B1 Y.f1.length d1]] w fun e w' => e = .returned (.bool v) ∧ Below w.heap.size w w' := by
  subst hv
  exact above_any X Y A0 c0 A1 c1 B0 d0 B1 d1 w hX.h0 hX.l0 hX.h1 hX.l1 hY.h0 hY.l0 hY.h1 hY.l1 (rows_bd rX hs) (rows_bd rY hs)
theorem eqC (hX : SumC w gX A0 c0 A1 c1 X) (hY : SumC w gY B0 d0 B1 d1 Y) (rX : rightS P R X = true) (hs : shapeS P R = true) {v : Bool} (hv : eqS X Y = v) : Calls Try.prog 11 #[.agg #[.slice A0 X.f0.length c0, .slice A1 X.f1.length c1], .agg #[.slice B0 Y.f0.length d0, .slice B1 Y.f1.length d1]] w fun e w' => e = .returned (.bool v) ∧ Below w.heap.size w w' := by
  obtain ⟨h1, h2, h3, h4⟩ := right_lens rX hs
  obtain ⟨k, hk⟩ := eqsum_ev X Y (by omega) (by omega) (fun r hr => by obtain ⟨q, hq, e⟩ := List.getElem_of_mem hr; rw [← e]; have := h4 q hq; omega)
  rw [hv] at hk
  exact fugueref00_EqSummary.calls k A0 c0 X.f0 A1 c1 X.f1 B0 d0 Y.f0 B1 d1 Y.f1 v w hX.h0 hX.l0 hX.h1 hX.l1 hY.h0 hY.l0 hY.h1 hY.l1 hk
theorem meetC (hX : SumC w gX A0 c0 A1 c1 X) (hY : SumC w gY B0 d0 B1 d1 Y) (rX : rightS P R X = true) (rY : rightS P R Y = true) (hs : shapeS P R = true) {M : S31} (hM : meetS X Y = M) : Calls Try.prog 13 #[.agg #[.slice A0 X.f0.length c0, .slice A1 X.f1.length c1], .agg #[.slice B0 Y.f0.length d0, .slice B1 Y.f1.length d1]] w fun e w' => ∃ A c A' c', e = .returned (.tuple #[.agg #[.slice A M.f0.length c, .slice A' M.f1.length c'], .int .i64 0]) ∧ kI.R 3 w' w.heap.size (fun k => w.heap.size ≤ k) (.slice A M.f0.length c) M.f0 ∧ kL.R 22 w' w.heap.size (fun k => w.heap.size ≤ k) (.slice A' M.f1.length c') M.f1 ∧ Below w.heap.size w w' := by
  subst hM
  refine (meet_any X Y A0 c0 A1 c1 B0 d0 B1 d1 w hX.h0 hX.l0 hX.h1 hX.l1 hY.h0 hY.l0 hY.h1 hY.l1 (rows_bd rX hs) (rows_bd rY hs) (pairs_bd rX rY hs)).mono ?_
  rintro e w' ⟨_, h, hb⟩
  obtain ⟨A, c, A', c', he, h1, h2⟩ := h (both_right rX rY)
  exact ⟨A, c, A', c', he, h1, h2, hb⟩
theorem checkC (p r v : Int) (B : Option Addr) (n b : Nat) (hX : SumC w gX A0 c0 A1 c1 X) (rX : rightS p r X = true) (hs : shapeS p r = true) : Calls Try.prog 12 #[.agg #[.int .i64 p, .int .i64 r, .int .i64 v, .slice B n b], .agg #[.slice A0 X.f0.length c0, .slice A1 X.f1.length c1]] w fun e w' => e = .returned (.int .i64 0) ∧ Below w.heap.size w w' := by
  refine (check_any p r v B n b X A0 c0 A1 c1 w hX.h0 hX.l0 hX.h1 hX.l1).mono ?_
  rintro e w' ⟨rfl, hb⟩
  exact ⟨by unfold checkS; rw [hs, rX]; rfl, hb⟩
end
/-- What shaped hands out. -/
theorem shapedC {k : Nat} {p r P R : Int} {l : List Int} {S : S31} (A : Option Addr) (c : Nat) (w : World) (h : kI.C w A l.length l) (hl : l.length ≤ c) (e : fuguelaw09_shaped.f k p r l = some (P, R, 0, [], S.f0, S.f1)) : Calls Try.prog 9 #[.int .i64 p, .int .i64 r, .slice A l.length c] w fun e w' => ∃ A3 c3 A0 c0 A1 c1, e = .returned (.tuple #[.agg #[.int .i64 P, .int .i64 R, .int .i64 0, .slice A3 0 c3], .agg #[.slice A0 S.f0.length c0, .slice A1 S.f1.length c1]]) ∧ S.f0.length ≤ c0 ∧ kI.C w' A0 S.f0.length S.f0 ∧ S.f1.length ≤ c1 ∧ kL.C w' A1 S.f1.length S.f1 ∧ Below w.heap.size w w' := by
  refine (fuguelaw09_shaped.calls k p r A c l P R 0 [] S.f0 S.f1 w h hl e).mono ?_
  rintro e w' ⟨v3, v4, v5, rfl, h3, h4, h5, hb⟩
  obtain ⟨A3, c3, rfl, l3, k3⟩ := Kd.N_reads h3
  obtain ⟨A4, c4, rfl, l4, k4⟩ := Kd.R_reads h4
  obtain ⟨A5, c5, rfl, l5, k5⟩ := Kd.N_reads h5
  exact ⟨A3, c3, A4, c4, A5, c5, rfl, l4, k4, l5, k5, hb⟩
/-- A function and a summary that are stored into cells of their own. -/
theorem two_stored {w0 w2 : World} {g1 g2 : Nat} {x0 x1 x2 x3 x4 x5 y0 y1 y2 y3 y4 y5 : Value} (h1 : w2.heap[g1]? = some (.cells #[y0, y1, y2, y3] 28 (0, 0))) (h2 : w2.heap[g2]? = some (.cells #[y4, y5] 31 (0, 0))) (hB : Below w0.heap.size w0 w2) (hg1 : w0.heap.size ≤ g1) (hg2 : w0.heap.size ≤ g2) :
    ((((((w2.setCell ⟨g1, 0, none⟩ x0).setCell ⟨g1, 1, none⟩ x1).setCell ⟨g1, 2, none⟩ x2).setCell ⟨g1, 3, none⟩ x3).setCell ⟨g2, 0, none⟩ x4).setCell ⟨g2, 1, none⟩ x5).heap[g1]? = some (.cells #[x0, x1, x2, x3] 28 (0, 0)) ∧
    ((((((w2.setCell ⟨g1, 0, none⟩ x0).setCell ⟨g1, 1, none⟩ x1).setCell ⟨g1, 2, none⟩ x2).setCell ⟨g1, 3, none⟩ x3).setCell ⟨g2, 0, none⟩ x4).setCell ⟨g2, 1, none⟩ x5).heap[g2]? = some (.cells #[x4, x5] 31 (0, 0)) ∧
    Below w0.heap.size w0 ((((((w2.setCell ⟨g1, 0, none⟩ x0).setCell ⟨g1, 1, none⟩ x1).setCell ⟨g1, 2, none⟩ x2).setCell ⟨g1, 3, none⟩ x3).setCell ⟨g2, 0, none⟩ x4).setCell ⟨g2, 1, none⟩ x5) := by
  have hne : g1 ≠ g2 := blk_ne h1 h2 (by decide)
  have e1 := (blk_set (blk_set (blk_set (blk_set h1 0 x0) 1 x1) 2 x2) 3 x3).trans rfl
  have e2 := blk_far (blk_far (blk_far (blk_far h2 (p := ⟨g1, 0, none⟩) hne.symm x0) (p := ⟨g1, 1, none⟩) hne.symm x1) (p := ⟨g1, 2, none⟩) hne.symm x2) (p := ⟨g1, 3, none⟩) hne.symm x3
  exact ⟨blk_far (blk_far e1 hne _) hne _, (blk_set (blk_set e2 0 _) 1 _).trans rfl, below_set (below_set (below_set (below_set (below_set (below_set hB hg1) hg1) hg1) hg1) hg2) hg2⟩
/-- A summary that Meet hands out, stored into a cell of its own. -/
theorem one_stored {w1 w2 : World} {g : Nat} {A0 A1 : Option Addr} {c0 c1 b : Nat} {M : S31} {y0 y1 : Value} (hb : Below w1.heap.size w1 w2) (h : w2.heap[g]? = some (.cells #[y0, y1] 31 (0, 0))) (hg : w1.heap.size ≤ g)
    (h0 : kI.R 3 w1 b (fun k => b ≤ k) (.slice A0 M.f0.length c0) M.f0) (h1 : kL.R 22 w1 b (fun k => b ≤ k) (.slice A1 M.f1.length c1) M.f1) :
    SumC ((w2.setCell ⟨g, 0, none⟩ (.slice A0 M.f0.length c0)).setCell ⟨g, 1, none⟩ (.slice A1 M.f1.length c1)) g A0 c0 A1 c1 M ∧ Below w1.heap.size w1 ((w2.setCell ⟨g, 0, none⟩ (.slice A0 M.f0.length c0)).setCell ⟨g, 1, none⟩ (.slice A1 M.f1.length c1)) := by
  have hB := below_set (j := 1) (v := .slice A1 M.f1.length c1) (below_set (j := 0) (v := .slice A0 M.f0.length c0) hb hg) hg
  have r0 := Kd.R_reads' (Kd.R_below h0 hB)
  have r1 := Kd.R_reads' (Kd.R_below h1 hB)
  exact ⟨⟨(blk_set (blk_set h 0 _) 1 _).trans rfl, r0.2.1, r0.2.2, r1.2.1, r1.2.2⟩, hB⟩
/-- Stored over an elder summary. -/
theorem stored_over {w1 : World} {g : Nat} {A0 A1 : Option Addr} {c0 c1 b : Nat} {M : S31} {y0 y1 : Value} (h : w1.heap[g]? = some (.cells #[y0, y1] 31 (0, 0)))
    (h0 : kI.R 3 w1 b (fun k => b ≤ k) (.slice A0 M.f0.length c0) M.f0) (h1 : kL.R 22 w1 b (fun k => b ≤ k) (.slice A1 M.f1.length c1) M.f1) :
    SumC ((w1.setCell ⟨g, 0, none⟩ (.slice A0 M.f0.length c0)).setCell ⟨g, 1, none⟩ (.slice A1 M.f1.length c1)) g A0 c0 A1 c1 M := by
  have r0 := Kd.R_reads' (Kd.R_set (Kd.R_set h0 h (by decide) 0 (.slice A0 M.f0.length c0)) (blk_set h 0 _) (by decide) 1 (.slice A1 M.f1.length c1))
  have r1 := Kd.R_reads' (Kd.R_set (Kd.R_set h1 h (by decide) 0 (.slice A0 M.f0.length c0)) (blk_set h 0 _) (by decide) 1 (.slice A1 M.f1.length c1))
  exact ⟨(blk_set (blk_set h 0 _) 1 _).trans rfl, r0.2.1, r0.2.2, r1.2.1, r1.2.2⟩
/-- A summary elsewhere stays. -/
theorem stored_by {w1 : World} {g g' : Nat} {A0 A1 : Option Addr} {c0 c1 b b' : Nat} {M : S31} {x0 x1 y0 y1 : Value} (hS : SumC w1 g' A0 c0 A1 c1 M) (h : w1.heap[g]? = some (.cells #[y0, y1] 31 (0, 0))) (hne : g' ≠ g)
    (h0 : kI.R 3 w1 b (fun k => b ≤ k) (.slice A0 M.f0.length c0) M.f0) (h1 : kL.R 22 w1 b' (fun k => b' ≤ k) (.slice A1 M.f1.length c1) M.f1) :
    SumC ((w1.setCell ⟨g, 0, none⟩ x0).setCell ⟨g, 1, none⟩ x1) g' A0 c0 A1 c1 M := by
  have r0 := Kd.R_reads' (Kd.R_set (Kd.R_set h0 h (by decide) 0 x0) (blk_set h 0 _) (by decide) 1 x1)
  have r1 := Kd.R_reads' (Kd.R_set (Kd.R_set h1 h (by decide) 0 x0) (blk_set h 0 _) (by decide) 1 x1)
  exact ⟨blk_far (blk_far hS.blk hne _) hne _, hS.l0, r0.2.2, hS.l1, r1.2.2⟩
end Go.Proofs.Ytgemcomcjojjbaa.PS
