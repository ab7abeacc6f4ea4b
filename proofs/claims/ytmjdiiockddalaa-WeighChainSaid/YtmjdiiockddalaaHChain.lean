/- The law WeighChain answers true for every list. Conditions: sizes that every machine keeps. -/
import Derived.Test.YtmjdiiockddalaaHChainW
import Derived.Test.YtmjdiiockddalaaHFix
import Derived.Test.YtmjdiiockddalaaHArgs
namespace Go.Proofs.Ytmjdiiockddalaa.PW
open Go.RowKit Go.Maps Go.Proofs.YtmjdiiockddalaaW.PrintWords Go.Proofs.YtmjdiiockddalaaW.PrintLast Go.Proofs.YtmjdiiockddalaaW.PrintMore
set_option linter.unusedVariables false
set_option linter.unusedSimpArgs false

def cd (l : List Int) (j : Nat) : Int := l.getD j 0 % 5 - 1
def cw (l : List Int) : Nat → Int
  | 0 => 0
  | j + 1 => plus (cw l j) (cd l j)
def cE (l : List Int) (i : Nat) : List S41 := (List.range i).map fun (j : Nat) => (⟨(j : Int), (j : Int) + 1, cd l j⟩ : S41)
def cW (l : List Int) (i : Nat) : List Int := (List.range (i + 1)).map (cw l)
theorem cd_range (l : List Int) (j : Nat) : -1 ≤ cd l j ∧ cd l j ≤ 3 := by
  have h3 := Int.emod_nonneg (l.getD j 0) (show (5 : Int) ≠ 0 by omega)
  have h4 := Int.emod_lt_of_pos (l.getD j 0) (show (0 : Int) < 5 by omega)
  unfold cd
  omega
theorem cE_len (l : List Int) (i : Nat) : (cE l i).length = i := by simp [cE]
theorem cW_len (l : List Int) (i : Nat) : (cW l i).length = i + 1 := by simp [cW]
theorem cW_rd (l : List Int) (i j : Nat) (h : j ≤ i) : rd (cW l i) (j : Int) = cw l j := by
  rw [rd_get _ j (by rw [cW_len]; omega)]
  simp [cW]
theorem cE_good (l : List Int) (n : Nat) : Good (n + 1) (cE l n) [0] := by
  refine ⟨fun e he => ?_, fun r hr => ?_⟩
  · obtain ⟨j, hj, rfl⟩ := List.mem_map.1 he
    have := List.mem_range.1 hj
    have h := cd_range l j
    refine ⟨?_, ?_, ?_, ?_, h.1, h.2⟩ <;> simp only <;> omega
  · rw [List.mem_singleton] at hr
    subst hr
    omega
theorem cE_reach (l : List Int) (n : Nat) : ∀ j : Nat, j ≤ n → Reach (cE l n) [0] (j : Int) (cw l j)
  | 0, _ => Reach.root (by simp)
  | j + 1, h => by
    have := Reach.edge (es := cE l n) (rs := [0]) (e := (⟨(j : Int), (j : Int) + 1, cd l j⟩ : S41)) (List.mem_map.2 ⟨j, List.mem_range.2 (by omega), rfl⟩) (cE_reach l n j (by omega))
    exact this
theorem cW_sol (l : List Int) (n : Nat) : Sol (n + 1) (cE l n) [0] (cW l n) := by
  refine ⟨by rw [cW_len], fun r hr => ?_, fun e he => ?_, fun i h0 h1 => ?_⟩
  · rw [List.mem_singleton] at hr
    subst hr
    have := cW_rd l n 0 (by omega)
    show rd (cW l n) ((0 : Nat) : Int) ≤ 0
    rw [this]
    exact Int.le_refl _
  · obtain ⟨j, hj, rfl⟩ := List.mem_map.1 he
    have := List.mem_range.1 hj
    have e1 := cW_rd l n (j + 1) (by omega)
    have e2 := cW_rd l n j (by omega)
    show rd (cW l n) ((j : Int) + 1) ≤ plus (rd (cW l n) (j : Int)) (cd l j)
    rw [e2, show ((j : Int) + 1) = ((j + 1 : Nat) : Int) by omega, e1]
    exact Int.le_refl _
  · obtain ⟨k, rfl⟩ := Int.eq_ofNat_of_zero_le h0
    right
    rw [cW_rd l n k (by omega)]
    exact cE_reach l n k (by omega)
theorem chain_pure (l : List Int) (hl : l.length ≤ 1048575) : ∃ k, fuguelaw06_WeighChain.f k l = some true := by
  refine Ev.rounds ?_
  unfold fuguelaw06_WeighChain.f
  refine Ev.bind fixed_ev ?_
  have loop : ∀ (d i : Nat), l.length - i = d → i ≤ l.length → Ev (fun k => fuguelaw06_WeighChain.l0 k l true (cE l i) (cW l i) (i : Int)) true := by
    intro d
    induction d with
    | zero =>
      intro i hd hi
      obtain rfl : i = l.length := by omega
      obtain ⟨b, hf, hs⟩ := from_good_f (n := l.length + 1) (by omega) (by rw [cE_len]; omega) (cE_good l l.length)
      have hb : b = cW l l.length := Sol.unique (cE_good l l.length) hs (cW_sol l l.length)
      subst hb
      refine Ev.step (f := fun k => (fugueref00_EqInts.f k (cW l l.length) (cW l l.length)).bind fun t144 => some t144) (fun k => by
        simp only [fuguelaw06_WeighChain.l0]
        rw [if_neg (by omega), wrap_in (by omega) (by omega), show ((l.length : Int) + 1) = ((l.length + 1 : Nat) : Int) by omega, hf]
        rfl) ?_
      refine Ev.bind (eqints_ev _ _ (by rw [cW_len]; omega)) ?_
      rw [beq_iff_eq.2 rfl]
      exact Ev.now _
    | succ d ih =>
      intro i hd hi
      have hx : i < l.length := by omega
      have hr := cd_range l i
      have hd1 : cd l i = l[i] % 5 - 1 := by unfold cd; rw [List.getD_eq_getElem?_getD, List.getElem?_eq_getElem hx]; rfl
      have eE : cE l (i + 1) = cE l i ++ [(⟨(i : Int), (i : Int) + 1, cd l i⟩ : S41)] := by unfold cE; rw [List.range_succ, List.map_append]; rfl
      have eW : cW l (i + 1) = cW l i ++ [plus (cw l i) (cd l i)] := by unfold cW; rw [List.range_succ, List.map_append]; rfl
      refine Ev.step (f := fun k => fuguelaw06_WeighChain.l0 k l true (cE l (i + 1)) (cW l (i + 1)) ((i + 1 : Nat) : Int)) (fun k => by
        simp only [fuguelaw06_WeighChain.l0]
        rw [if_pos (by omega), if_pos (by omega), rd_get l i hx, mod_f _ 5 (by omega) (by omega), Option.bind_some, eE, eW]
        rw [if_pos (by rw [cE_len]; omega), if_pos (by rw [cW_len]; omega), wrap_in (by omega) (by omega), ← hd1, cW_rd l i i (by omega), weigh_Plus_f, Option.bind_some, if_pos (by rw [cW_len]; omega), wrap_in (by omega) (by omega)]
        rfl) ?_
      exact ih (i + 1) (by omega) (by omega)
  have := loop l.length 0 (by omega) (by omega)
  exact this
theorem chain_walk {ps : List Int} (hp : Ok29 ps) (W : World) {A c} (l3 : ps.length ≤ c) (g3 : (Kd.int .i64).C W A ps.length ps) :
    Calls Try.prog 6 #[.slice A ps.length c] W fun e w' => e = .returned (.bool true) ∧ Below W.heap.size W w' := by
  obtain ⟨k, hk⟩ := chain_pure (ps.take 1048575) (by rw [List.length_take]; omega)
  exact fuguelaw06_WeighChain.calls k A c ps true W g3 l3 hk
end Go.Proofs.Ytmjdiiockddalaa.PW
