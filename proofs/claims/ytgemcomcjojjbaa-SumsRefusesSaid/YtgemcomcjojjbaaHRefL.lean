/- SumsRefuses is true: its walks joined. No conditions. -/
import Derived.Test.YtgemcomcjojjbaaHRefH
import Derived.Test.YtgemcomcjojjbaaHRefR
import Derived.Test.YtgemcomcjojjbaaHRefZ
import Derived.Test.YtgemcomcjojjbaaHArgsS
namespace Go.Proofs.Ytgemcomcjojjbaa.PS
open Go.RowKit Go.Proofs.YtgemcomcjojjbaaW.PrintWords
theorem by_cases4 (z : Int) : ∃ b0 b3 b9 may : Bool, decide (z ≥ 0) = b0 ∧ decide (z ≤ 3) = b3 ∧ (z == 9) = b9 ∧ isN z = may ∧ ((b0 = false ∧ b9 = false ∧ may = false) ∨ (b0 = true ∧ b3 = true ∧ may = true) ∨ (b0 = true ∧ b3 = false ∧ b9 = false ∧ may = false) ∨ (b0 = true ∧ b3 = false ∧ b9 = true ∧ may = true)) := by
  refine ⟨_, _, _, _, rfl, rfl, rfl, rfl, ?_⟩
  unfold isN
  by_cases h0 : z ≥ 0
  · have e0 : decide (0 ≤ z) = true := decide_eq_true h0
    rw [decide_eq_true h0]
    by_cases h3 : z ≤ 3
    · right; left
      rw [decide_eq_true h3]
      simp
    · have h3' : decide (z ≤ 3) = false := decide_eq_false h3
      by_cases h9 : z = 9
      · right; right; right
        rw [h3', beq_iff_eq.2 h9]
        simp
      · right; right; left
        rw [h3', beq_eq_false_iff_ne.2 h9]
        simp
  · left
    have e0 : decide (0 ≤ z) = false := decide_eq_false h0
    rw [decide_eq_false h0, beq_eq_false_iff_ne.2 (show z ≠ 9 by omega)]
    simp
theorem refuses_any {x : S24} {A2 : Option Addr} {c2 : Nat} {A3 : Option Addr} {c3 : Nat} {A4 : Option Addr} {c4 : Nat} (W : World) (l2 : x.f2.length ≤ c2) (g2 : (Kd.int .i64).C W A2 x.f2.length x.f2) (n z : Int) :
    Calls Try.prog 4 #[.agg #[.int .i64 x.f0, .int .i64 x.f1, .slice A2 x.f2.length c2, .slice A3 x.f3.length c3, .slice A4 x.f4.length c4], .int .i64 n, .int .i64 z] W fun e w' => e = .returned (.bool true) ∧ Below W.heap.size W w' := by
  obtain ⟨p, r, la, lb, lc⟩ := x
  obtain ⟨k1, h1, r1, e1, ra⟩ := shaped_ok p r la (Kd.C_max g2)
  have hs := shape_mod p r
  by_cases hP : p % 9 = 0
  · exact ref_walkZ p r n z la lb lc A2 A3 A4 c2 c3 c4 (p % 9) (r % 5) ⟨h1, r1⟩ k1 W g2 l2 e1 (by rw [beq_iff_eq]; exact hP)
  · have q1 := Int.emod_nonneg p (show (9 : Int) ≠ 0 by omega)
    have q3 := Int.emod_nonneg r (show (5 : Int) ≠ 0 by omega)
    have q4 := Int.emod_lt_of_pos r (show (0 : Int) < 5 by omega)
    have q2 := Int.emod_lt_of_pos p (show (0 : Int) < 9 by omega)
    obtain ⟨Pn, hPn⟩ := Int.eq_ofNat_of_zero_le q1
    obtain ⟨Rn, hRn⟩ := Int.eq_ofNat_of_zero_le q3
    rw [hPn, hRn] at e1 ra hs
    rw [hPn] at hP q2
    rw [hRn] at q4
    have hP1 : 0 < Pn := by omega
    have hK : 0 < Pn * (Rn + 1) := Nat.mul_pos hP1 (by omega)
    have hKb : Pn * (Rn + 1) ≤ 45 := by have := Nat.mul_le_mul (show Pn ≤ 9 by omega) (show Rn + 1 ≤ 5 by omega); omega
    obtain ⟨K, hKe⟩ : ∃ K, K = Pn * (Rn + 1) := ⟨_, rfl⟩
    rw [← hKe] at hK hKb
    have hm := mod_f n (K : Int) (by omega) (by omega)
    have m1 := Int.emod_nonneg n (show (K : Int) ≠ 0 by omega)
    have m2 := Int.emod_lt_of_pos n (show (0 : Int) < (K : Int) by omega)
    obtain ⟨kn, hkn⟩ := Int.eq_ofNat_of_zero_le m1
    rw [hkn] at hm m2
    have hkl : kn < Pn * (Rn + 1) := by rw [← hKe]; omega
    rw [hKe] at hm
    obtain ⟨b0, b3, b9, may, z0, z3, z9, zm, zb⟩ := by_cases4 z
    by_cases hj : kn % (Rn + 1) = 0
    · exact ref_walkH p r n z la lb lc A2 A3 A4 c2 c3 c4 Pn Rn kn ⟨h1, r1⟩ k1 may b0 b3 b9 W g2 l2 e1 hs ra hP1 hkl hm hj z0 z3 z9 zm zb
    · exact ref_walkR p r n z la lb lc A2 A3 A4 c2 c3 c4 Pn Rn kn ⟨h1, r1⟩ k1 may b0 b3 b9 W g2 l2 e1 hs ra hP1 hkl hm hj z0 z3 z9 zm zb
end Go.Proofs.Ytgemcomcjojjbaa.PS
