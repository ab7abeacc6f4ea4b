/- Encode and fixed of package sums in the printed form. No conditions. -/
import Derived.Test.YtgemcomcjojjbaaHEnc
import Derived.Test.YtgemcomcjojjbaaHFixed
namespace Go.Proofs.Ytgemcomcjojjbaa.PS
open Go.RowKit Go.Proofs.YtgemcomcjojjbaaW.PrintWords Go.Proofs.YtgemcomcjojjbaaW.PrintLast Go.Proofs.YtgemcomcjojjbaaW.PrintMore
set_option linter.unusedVariables false

def sums_Encode.f (l0 : List S28) (l1 : List S31) : Option (List Int × Int) := if l1.length ≤ 2400000000000 then some (encOut l0 l1, encErr l0 l1) else none
theorem sums_Encode.calls (A0 : Option Addr) (c0 : Nat) (l0 : List S28) (A1 : Option Addr) (c1 : Nat) (l1 : List S31) (r1 : List Int) (r2 : Int) (w : World) (hr0 : Kd.C k28 w A0 l0.length l0) (hc0 : l0.length ≤ c0) (hr1 : Kd.C k31 w A1 l1.length l1) (hc1 : l1.length ≤ c1) (h : sums_Encode.f l0 l1 = some (r1, r2)) :
    Calls Try.prog 16 #[.slice A0 l0.length c0, .slice A1 l1.length c1] w fun e w' => ∃ v1_ : Value, e = .returned (.tuple #[v1_, .int .i64 r2]) ∧ Kd.R (Kd.int .u8) 5 w' w.heap.size (fun _ => True) v1_ r1 ∧ Below w.heap.size w w' := by
  unfold sums_Encode.f at h
  by_cases hl : l1.length ≤ 2400000000000
  · rw [if_pos hl] at h
    injection h with h
    injection h with h1 h2
    subst h1
    subst h2
    refine (enc_any l0 l1 A0 c0 A1 c1 w hr0 hr1 hl).mono ?_
    rintro e w' ⟨v, rfl, ho, hb⟩
    exact ⟨v, rfl, ho, hb⟩
  · rw [if_neg hl] at h
    cases h
def fuguelaw09_fixed.f : Option Bool := some true
theorem fuguelaw09_fixed.calls (r : Bool) (w : World) (h : fuguelaw09_fixed.f = some r) : Calls Try.prog 8 #[] w fun e w' => e = .returned (.bool r) ∧ Below w.heap.size w w' := by
  injection h with h
  subst h
  exact fixed_any w
end Go.Proofs.Ytgemcomcjojjbaa.PS
