-- printed by a program of the session's (wip/tools/hook.py over the kit's printer), with functions proved by hand
import Derived.Test.YtgemcomcjojjbaaHEncode
import Derived.Test.YtgemcomcjojjbaaPSx0
import Derived.Test.YtgemcomcjojjbaaPSx1
import Derived.Test.YtgemcomcjojjbaaPSx3
import Derived.Test.YtgemcomcjojjbaaPSx4
import Derived.Test.YtgemcomcjojjbaaPSx5
import Derived.Test.YtgemcomcjojjbaaPSx7
import Derived.Test.YtgemcomcjojjbaaPSx8
import Derived.Test.YtgemcomcjojjbaaPSx9
import Derived.Test.YtgemcomcjojjbaaHReadE
namespace Go.Proofs.Ytgemcomcjojjbaa.PS
open Go.RowKit Go.Proofs.YtgemcomcjojjbaaW.PrintWords Go.Proofs.YtgemcomcjojjbaaW.PrintLast Go.Proofs.YtgemcomcjojjbaaW.PrintMore
attribute [local go_sem] max2_int min2_int max_two min_two max_three min_three max_four min_four   -- for this text's walks alone
set_option linter.unusedVariables false
set_option linter.unusedSimpArgs false

/-! ### fuguelaw09_SumsRounds: function 6 -/
mutual
def fuguelaw09_SumsRounds.l0 : Nat → List (S24) → Int → Int → Bool → List (S28) → List (S31) → Int → Option (Bool)
  | 0, _, _, _, _, _, _, _ => none
  | k + 1, x0, x1, x2, x7, x8, x9, x10 => if x10 < (x0.length : Int) then (if 0 ≤ x10 then ((fuguelaw09_shaped.f k ((rd_T24 x0 x10).f0) ((rd_T24 x0 x10).f1) ((rd_T24 x0 x10).f2)).bind fun bt182 => (if x8.length < 2932031007402 then (if x9.length < 2932031007402 then (fuguelaw09_SumsRounds.l0 k x0 x1 x2 x7 (x8 ++ [(⟨bt182.1, bt182.2.1, bt182.2.2.1, bt182.2.2.2.1⟩ : S28)]) (x9 ++ [(⟨bt182.2.2.2.2.1, bt182.2.2.2.2.2⟩ : S31)]) (wrap64 (x10 + 1))) else (none)) else (none))) else (none)) else ((sums_Encode.f x8 x9).bind fun bt202 => ((sums_Decode.f x8 bt202.1).bind fun bt206 => ((fugueref00_EqSums.f k x9 bt206.1).bind fun t210 => (if x7 = true then (if bt202.2 = 0 then (if bt206.2 = bt202.2 then (fuguelaw09_SumsRounds.j1 k x1 x2 x8 bt202.1 (!t210)) else (fuguelaw09_SumsRounds.j1 k x1 x2 x8 bt202.1 true)) else (fuguelaw09_SumsRounds.j1 k x1 x2 x8 bt202.1 true)) else (fuguelaw09_SumsRounds.j1 k x1 x2 x8 bt202.1 true)))))
def fuguelaw09_SumsRounds.j1 : Nat → Int → Int → List (S28) → List Int → Bool → Option (Bool)
  | 0, _, _, _, _, _ => none
  | k + 1, x1, x2, x8, x13, x94 => if x94 = true then (some false) else ((fugueref00_CopyBytes.f k x13).bind fun t211 => (if t211.length < 140737488355328 then ((sums_Decode.f x8 (t211 ++ [x2])).bind fun bt217 => (if bt217.2 = 90 then (if (x13.length : Int) = 0 then (some true) else (if 0 ≤ (wrap64 ((x13.length : Int) - 1)) then (if (wrap64 ((x13.length : Int) - 1)) ≤ (x13.length : Int) then ((sums_Decode.f x8 (x13.take ((wrap64 ((x13.length : Int) - 1)) : Int).toNat)).bind fun bt226 => ((fugueref00_CopyBytes.f k x13).bind fun t230 => ((fuguelaw09_mod.f x1 (t230.length : Int)).bind fun t233 => (if 0 ≤ t233 then (if t233 < (t230.length : Int) then ((some (t230.set (t233 : Int).toNat x2 : List Int)).bind fun y234 => ((sums_Decode.f x8 y234).bind fun bt235 => (if x2 ≤ 3 then (fuguelaw09_SumsRounds.j2 k x8 bt226.2 y234 bt235.1 bt235.2 true) else (fuguelaw09_SumsRounds.j2 k x8 bt226.2 y234 bt235.1 bt235.2 (x2 == 9))))) else (none)) else (none))))) else (none)) else (none))) else (some false))) else (none)))
def fuguelaw09_SumsRounds.j2 : Nat → List (S28) → Int → List Int → List (S31) → Int → Bool → Option (Bool)
  | 0, _, _, _, _, _, _ => none
  | k + 1, x8, x22, x23, x25, x26, x27 => if x22 = 90 then (if (x27 != (x26 == 0)) = true then (fuguelaw09_SumsRounds.j3 k x8 x23 x25 x27 true) else (if x27 = true then (fuguelaw09_SumsRounds.j3 k x8 x23 x25 x27 false) else (fuguelaw09_SumsRounds.j3 k x8 x23 x25 x27 (x26 != 90)))) else (fuguelaw09_SumsRounds.j3 k x8 x23 x25 x27 true)
def fuguelaw09_SumsRounds.j3 : Nat → List (S28) → List Int → List (S31) → Bool → Bool → Option (Bool)
  | 0, _, _, _, _, _ => none
  | k + 1, x8, x23, x25, x27, x158 => if x158 = true then (some false) else ((sums_Encode.f x8 x25).bind fun bt239 => ((fugueref00_EqBytes.f k bt239.1 x23).bind fun t243 => (if x27 = true then (if bt239.2 = 0 then (some t243) else (some false)) else (some true))))
end
def fuguelaw09_SumsRounds.f (k : Nat) (l0 : List (S24)) (a1 : Int) (a2 : Int) : Option (Bool) := (fuguelaw09_fixed.f).bind fun t178 => (fuguelaw09_SumsRounds.l0 k l0 a1 a2 t178 ([] : List (S28)) ([] : List (S31)) 0)
theorem fuguelaw09_SumsRounds.mono_l : ∀ k, (∀ y0 y1 y2 y3 y4 y5 y6, LeO (fuguelaw09_SumsRounds.l0 k y0 y1 y2 y3 y4 y5 y6) (fuguelaw09_SumsRounds.l0 (k + 1) y0 y1 y2 y3 y4 y5 y6)) ∧ (∀ y0 y1 y2 y3 y4, LeO (fuguelaw09_SumsRounds.j1 k y0 y1 y2 y3 y4) (fuguelaw09_SumsRounds.j1 (k + 1) y0 y1 y2 y3 y4)) ∧ (∀ y0 y1 y2 y3 y4 y5, LeO (fuguelaw09_SumsRounds.j2 k y0 y1 y2 y3 y4 y5) (fuguelaw09_SumsRounds.j2 (k + 1) y0 y1 y2 y3 y4 y5)) ∧ (∀ y0 y1 y2 y3 y4, LeO (fuguelaw09_SumsRounds.j3 k y0 y1 y2 y3 y4) (fuguelaw09_SumsRounds.j3 (k + 1) y0 y1 y2 y3 y4))
  | 0 => ⟨fun _ _ _ _ _ _ _ r h => by simp [fuguelaw09_SumsRounds.l0] at h, fun _ _ _ _ _ r h => by simp [fuguelaw09_SumsRounds.j1] at h, fun _ _ _ _ _ _ r h => by simp [fuguelaw09_SumsRounds.j2] at h, fun _ _ _ _ _ r h => by simp [fuguelaw09_SumsRounds.j3] at h⟩
  | k + 1 => by
    obtain ⟨ih0, ih1, ih2, ih3⟩ := fuguelaw09_SumsRounds.mono_l k
    refine ⟨?_, ?_, ?_, ?_⟩
    · intro y0 y1 y2 y3 y4 y5 y6
      unfold fuguelaw09_SumsRounds.l0
      repeat' first
      | (with_reducible exact ih0 _ _ _ _ _ _ _)
      | (with_reducible exact ih1 _ _ _ _ _)
      | (with_reducible exact ih2 _ _ _ _ _ _)
      | (with_reducible exact ih3 _ _ _ _ _)
      | (with_reducible exact fuguelaw09_shaped.mono _ _ _ _)
      | (with_reducible exact fugueref00_CopyBytes.mono _ _)
      | (with_reducible exact fugueref00_EqBytes.mono _ _ _)
      | (with_reducible exact fugueref00_EqSums.mono _ _ _)
      | (with_reducible exact LeO.refl _)
      | (with_reducible exact LeO.none _)
      | (with_reducible refine LeO.ite ?_ ?_)
      | (with_reducible refine LeO.bind ?_ (fun _ => ?_))
      | exact ih0 _ _ _ _ _ _ _
      | exact ih1 _ _ _ _ _
      | exact ih2 _ _ _ _ _ _
      | exact ih3 _ _ _ _ _
      | exact fuguelaw09_shaped.mono _ _ _ _
      | exact fugueref00_CopyBytes.mono _ _
      | exact fugueref00_EqBytes.mono _ _ _
      | exact fugueref00_EqSums.mono _ _ _
      | exact LeO.none _
      | refine LeO.ite ?_ ?_
      | refine LeO.bind ?_ (fun _ => ?_)
    · intro y0 y1 y2 y3 y4
      unfold fuguelaw09_SumsRounds.j1
      repeat' first
      | (with_reducible exact ih0 _ _ _ _ _ _ _)
      | (with_reducible exact ih1 _ _ _ _ _)
      | (with_reducible exact ih2 _ _ _ _ _ _)
      | (with_reducible exact ih3 _ _ _ _ _)
      | (with_reducible exact fuguelaw09_shaped.mono _ _ _ _)
      | (with_reducible exact fugueref00_CopyBytes.mono _ _)
      | (with_reducible exact fugueref00_EqBytes.mono _ _ _)
      | (with_reducible exact fugueref00_EqSums.mono _ _ _)
      | (with_reducible exact LeO.refl _)
      | (with_reducible exact LeO.none _)
      | (with_reducible refine LeO.ite ?_ ?_)
      | (with_reducible refine LeO.bind ?_ (fun _ => ?_))
      | exact ih0 _ _ _ _ _ _ _
      | exact ih1 _ _ _ _ _
      | exact ih2 _ _ _ _ _ _
      | exact ih3 _ _ _ _ _
      | exact fuguelaw09_shaped.mono _ _ _ _
      | exact fugueref00_CopyBytes.mono _ _
      | exact fugueref00_EqBytes.mono _ _ _
      | exact fugueref00_EqSums.mono _ _ _
      | exact LeO.none _
      | refine LeO.ite ?_ ?_
      | refine LeO.bind ?_ (fun _ => ?_)
    · intro y0 y1 y2 y3 y4 y5
      unfold fuguelaw09_SumsRounds.j2
      repeat' first
      | (with_reducible exact ih0 _ _ _ _ _ _ _)
      | (with_reducible exact ih1 _ _ _ _ _)
      | (with_reducible exact ih2 _ _ _ _ _ _)
      | (with_reducible exact ih3 _ _ _ _ _)
      | (with_reducible exact fuguelaw09_shaped.mono _ _ _ _)
      | (with_reducible exact fugueref00_CopyBytes.mono _ _)
      | (with_reducible exact fugueref00_EqBytes.mono _ _ _)
      | (with_reducible exact fugueref00_EqSums.mono _ _ _)
      | (with_reducible exact LeO.refl _)
      | (with_reducible exact LeO.none _)
      | (with_reducible refine LeO.ite ?_ ?_)
      | (with_reducible refine LeO.bind ?_ (fun _ => ?_))
      | exact ih0 _ _ _ _ _ _ _
      | exact ih1 _ _ _ _ _
      | exact ih2 _ _ _ _ _ _
      | exact ih3 _ _ _ _ _
      | exact fuguelaw09_shaped.mono _ _ _ _
      | exact fugueref00_CopyBytes.mono _ _
      | exact fugueref00_EqBytes.mono _ _ _
      | exact fugueref00_EqSums.mono _ _ _
      | exact LeO.none _
      | refine LeO.ite ?_ ?_
      | refine LeO.bind ?_ (fun _ => ?_)
    · intro y0 y1 y2 y3 y4
      unfold fuguelaw09_SumsRounds.j3
      repeat' first
      | (with_reducible exact ih0 _ _ _ _ _ _ _)
      | (with_reducible exact ih1 _ _ _ _ _)
      | (with_reducible exact ih2 _ _ _ _ _ _)
      | (with_reducible exact ih3 _ _ _ _ _)
      | (with_reducible exact fuguelaw09_shaped.mono _ _ _ _)
      | (with_reducible exact fugueref00_CopyBytes.mono _ _)
      | (with_reducible exact fugueref00_EqBytes.mono _ _ _)
      | (with_reducible exact fugueref00_EqSums.mono _ _ _)
      | (with_reducible exact LeO.refl _)
      | (with_reducible exact LeO.none _)
      | (with_reducible refine LeO.ite ?_ ?_)
      | (with_reducible refine LeO.bind ?_ (fun _ => ?_))
      | exact ih0 _ _ _ _ _ _ _
      | exact ih1 _ _ _ _ _
      | exact ih2 _ _ _ _ _ _
      | exact ih3 _ _ _ _ _
      | exact fuguelaw09_shaped.mono _ _ _ _
      | exact fugueref00_CopyBytes.mono _ _
      | exact fugueref00_EqBytes.mono _ _ _
      | exact fugueref00_EqSums.mono _ _ _
      | exact LeO.none _
      | refine LeO.ite ?_ ?_
      | refine LeO.bind ?_ (fun _ => ?_)
theorem fuguelaw09_SumsRounds.mono : ∀ a0 a1 a2 k, LeO (fuguelaw09_SumsRounds.f k a0 a1 a2) (fuguelaw09_SumsRounds.f (k + 1) a0 a1 a2) := by
  intro a0 a1 a2 k
  obtain ⟨ih0, ih1, ih2, ih3⟩ := fuguelaw09_SumsRounds.mono_l k
  unfold fuguelaw09_SumsRounds.f
  repeat' first
      | (with_reducible exact ih0 _ _ _ _ _ _ _)
      | (with_reducible exact ih1 _ _ _ _ _)
      | (with_reducible exact ih2 _ _ _ _ _ _)
      | (with_reducible exact ih3 _ _ _ _ _)
      | (with_reducible exact fuguelaw09_shaped.mono _ _ _ _)
      | (with_reducible exact fugueref00_CopyBytes.mono _ _)
      | (with_reducible exact fugueref00_EqBytes.mono _ _ _)
      | (with_reducible exact fugueref00_EqSums.mono _ _ _)
      | (with_reducible exact LeO.refl _)
      | (with_reducible exact LeO.none _)
      | (with_reducible refine LeO.ite ?_ ?_)
      | (with_reducible refine LeO.bind ?_ (fun _ => ?_))
      | exact ih0 _ _ _ _ _ _ _
      | exact ih1 _ _ _ _ _
      | exact ih2 _ _ _ _ _ _
      | exact ih3 _ _ _ _ _
      | exact fuguelaw09_shaped.mono _ _ _ _
      | exact fugueref00_CopyBytes.mono _ _
      | exact fugueref00_EqBytes.mono _ _ _
      | exact fugueref00_EqSums.mono _ _ _
      | exact LeO.none _
      | refine LeO.ite ?_ ?_
      | refine LeO.bind ?_ (fun _ => ?_)
end Go.Proofs.Ytgemcomcjojjbaa.PS
