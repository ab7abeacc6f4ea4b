/- What EqSummary of package fugueref00 answers. No conditions. -/
import Derived.Test.YtgemcomcjojjbaaPSx7
import Derived.Test.YtgemcomcjojjbaaHShape
namespace Go.Proofs.Ytgemcomcjojjbaa.PS
open Go.RowKit Go.Proofs.YtgemcomcjojjbaaW.PrintWords Go.Proofs.YtgemcomcjojjbaaW.PrintLast Go.Proofs.YtgemcomcjojjbaaW.PrintMore
set_option linter.unusedVariables false
set_option linter.unusedSimpArgs false

theorem eqints_l0 (xs ys : List Int) (h : xs.length = ys.length) (hl : xs.length ≤ 9223372036854775807) : ∀ (d i : Nat), xs.length - i = d → i ≤ xs.length → Ev (fun k => fugueref00_EqInts.l0 k xs ys (i : Int)) (xs.drop i == ys.drop i) := by
  intro d
  induction d with
  | zero =>
    intro i hd hi
    refine Ev.step (f := fun _ => some true) (fun k => by simp only [fugueref00_EqInts.l0]; rw [if_neg (by omega)]) ?_
    rw [List.drop_eq_nil_of_le (by omega), List.drop_eq_nil_of_le (by omega)]
    exact Ev.now _
  | succ d ih =>
    intro i hd hi
    have hx : i < xs.length := by omega
    have hy : i < ys.length := by omega
    have e1 : rd xs (i : Int) = xs[i] := rd_get xs i hx
    have e2 : rd ys (i : Int) = ys[i] := rd_get ys i hy
    refine Ev.step (fun k => by simp only [fugueref00_EqInts.l0]; rw [if_pos (by omega), if_pos (by omega), if_pos (by omega), e1, e2, wrap_in (by omega) (by omega)]) ?_
    rw [List.drop_eq_getElem_cons hx, List.drop_eq_getElem_cons hy, List.cons_beq_cons]
    by_cases he : xs[i] = ys[i]
    · simp only [if_pos he]
      rw [beq_iff_eq.2 he, Bool.true_and]
      exact ih (i + 1) (by omega) (by omega)
    · simp only [if_neg he]
      rw [beq_eq_false_iff_ne.2 he, Bool.false_and]
      exact Ev.now _
theorem eqints_ev (xs ys : List Int) (hl : xs.length ≤ 9223372036854775807) : Ev (fun k => fugueref00_EqInts.f k xs ys) (xs == ys) := by
  unfold fugueref00_EqInts.f
  by_cases h : xs.length = ys.length
  · simp only [if_pos (show (xs.length : Int) = (ys.length : Int) by omega)]
    simpa using eqints_l0 xs ys h hl xs.length 0 (by omega) (by omega)
  · simp only [if_neg (show ¬ (xs.length : Int) = (ys.length : Int) by omega)]
    rw [beq_eq_false_iff_ne.2 (fun he => h (by rw [he]))]
    exact Ev.now _
theorem rdL_get (xs : List (List Int)) (i : Nat) (h : i < xs.length) : rd_L1 xs (i : Int) = xs[i] := by unfold rd_L1; rw [Int.toNat_natCast, List.getD_eq_getElem?_getD, List.getElem?_eq_getElem h]; rfl
theorem eqlists_l0 (xs ys : List (List Int)) (h : xs.length = ys.length) (hl : xs.length ≤ 9223372036854775807) (hr : ∀ r ∈ xs, r.length ≤ 9223372036854775807) : ∀ (d i : Nat), xs.length - i = d → i ≤ xs.length → Ev (fun k => fugueref00_EqLists.l0 k xs ys (i : Int)) (xs.drop i == ys.drop i) := by
  intro d
  induction d with
  | zero =>
    intro i hd hi
    refine Ev.step (f := fun _ => some true) (fun k => by simp only [fugueref00_EqLists.l0]; rw [if_neg (by omega)]) ?_
    rw [List.drop_eq_nil_of_le (by omega), List.drop_eq_nil_of_le (by omega)]
    exact Ev.now _
  | succ d ih =>
    intro i hd hi
    have hx : i < xs.length := by omega
    have hy : i < ys.length := by omega
    have e1 : rd_L1 xs (i : Int) = xs[i] := rdL_get xs i hx
    have e2 : rd_L1 ys (i : Int) = ys[i] := rdL_get ys i hy
    refine Ev.step (fun k => by simp only [fugueref00_EqLists.l0]; rw [if_pos (by omega), if_pos (by omega), if_pos (by omega), e1, e2, wrap_in (by omega) (by omega)]) ?_
    rw [List.drop_eq_getElem_cons hx, List.drop_eq_getElem_cons hy, List.cons_beq_cons]
    refine Ev.bind (eqints_ev xs[i] ys[i] (hr _ (List.getElem_mem hx))) ?_
    by_cases he : (xs[i] == ys[i]) = true
    · simp only [if_pos he]
      rw [he, Bool.true_and]
      exact ih (i + 1) (by omega) (by omega)
    · simp only [if_neg he]
      rw [Bool.not_eq_true] at he
      rw [he, Bool.false_and]
      exact Ev.now _
theorem eqlists_ev (xs ys : List (List Int)) (hl : xs.length ≤ 9223372036854775807) (hr : ∀ r ∈ xs, r.length ≤ 9223372036854775807) : Ev (fun k => fugueref00_EqLists.f k xs ys) (xs == ys) := by
  unfold fugueref00_EqLists.f
  by_cases h : xs.length = ys.length
  · simp only [if_pos (show (xs.length : Int) = (ys.length : Int) by omega)]
    simpa using eqlists_l0 xs ys h hl hr xs.length 0 (by omega) (by omega)
  · simp only [if_neg (show ¬ (xs.length : Int) = (ys.length : Int) by omega)]
    rw [beq_eq_false_iff_ne.2 (fun he => h (by rw [he]))]
    exact Ev.now _
def eqS (a b : S31) : Bool := a.f0 == b.f0 && a.f1 == b.f1
theorem eqsum_ev (a b : S31) (h0 : a.f0.length ≤ 9223372036854775807) (h1 : a.f1.length ≤ 9223372036854775807) (h2 : ∀ r ∈ a.f1, r.length ≤ 9223372036854775807) : ∃ k, fugueref00_EqSummary.f k a.f0 a.f1 b.f0 b.f1 = some (eqS a b) := by
  refine Ev.rounds (g := fun k => fugueref00_EqSummary.f k a.f0 a.f1 b.f0 b.f1) ?_
  unfold fugueref00_EqSummary.f eqS
  refine Ev.bind (eqints_ev a.f0 b.f0 h0) ?_
  by_cases he : (a.f0 == b.f0) = true
  · simp only [if_pos he]
    rw [he, Bool.true_and]
    exact Ev.bind (eqlists_ev a.f1 b.f1 h1 h2) (Ev.now _)
  · simp only [if_neg he]
    rw [Bool.not_eq_true] at he
    rw [he, Bool.false_and]
    exact Ev.now _
theorem eqS_self (a : S31) : eqS a a = true := by unfold eqS; rw [beq_self_eq_true, beq_self_eq_true]; rfl
end Go.Proofs.Ytgemcomcjojjbaa.PS
