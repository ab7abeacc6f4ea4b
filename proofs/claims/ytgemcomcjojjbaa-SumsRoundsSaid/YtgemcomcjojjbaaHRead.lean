/- The reader of package sums: must, take. No conditions. -/
import Derived.Test.YtgemcomcjojjbaaHEnc
import Derived.Great.Walk
import Derived.WalkLawsBesides
import Derived.Recover
namespace Go.Proofs.Ytgemcomcjojjbaa.PS
open Go.RowKit Go.Proofs.YtgemcomcjojjbaaW.PrintWords Go.Proofs.YtgemcomcjojjbaaW.PrintLast Go.Proofs.YtgemcomcjojjbaaW.PrintMore
set_option linter.unusedVariables false
set_option linter.unusedSimpArgs false

/-- What a reader gives up with. -/
def wrongV : Value := .iface 74 (.agg #[])
theorem must_true (w : World) : Calls Try.prog 41 #[.bool true] w fun e w' => e = .returned (.tuple #[]) ∧ w = w' := by
  go_enter Try.func41, Try.ntmps41
  go_wp2
  go_end0
  exact ⟨rfl, rfl⟩
theorem must_false (w : World) : Calls Try.prog 41 #[.bool false] w fun e w' => e = .panicked [{ v := wrongV, recovered := false }] ∧ w = w' := by
  go_enter Try.func41, Try.ntmps41
  go_wp2
  exact ⟨rfl, rfl, rfl⟩
/-- A slice of bytes that is read, cut in two. -/
theorem cut_bytes {w : World} {A : Option Addr} {c : Nat} {xs : List Int} (h : kB.C w A xs.length xs) (hc : xs.length ≤ c) (k : Nat) (hk : k ≤ xs.length) :
    (∀ W : World, (Instr.slice 42 (.slice A xs.length c) none (some (.int .i64 (k : Int))) none).run Try.prog W = .ok (.slice A k c) W) ∧ kB.C w A (xs.take k).length (xs.take k) ∧ (xs.take k).length = k ∧
    ∃ A' c', (∀ W : World, (Instr.slice 42 (.slice A xs.length c) (some (.int .i64 (k : Int))) none none).run Try.prog W = .ok (.slice A' (xs.drop k).length c') W) ∧ kB.C w A' (xs.drop k).length (xs.drop k) ∧ (xs.drop k).length ≤ c' := by
  obtain ⟨i0, hi, hz0, hz1, hz2⟩ := info_parts info5
  have hR := Kd.reads_of_C (d := (0 : Int)) h
  have hl : (xs.take k).length = k := by rw [List.length_take]; omega
  refine ⟨?_, ?_, hl, if c = k then A else A.map (·.add k), c - k, ?_, ?_, by rw [List.length_drop]; omega⟩
  · have := cut_to (P := Try.prog) 42 5 .i64 Try.underlying42 hi A xs.length c (k : Int) (by omega) (by omega) hc
    simpa only [Int.toNat_natCast] using this
  · rw [hl]
    exact Kd.C_of_reads (hR.take_ k hk)
  · have := cut_from (P := Try.prog) 42 5 .i64 Try.underlying42 hi 1 hz1 A xs.length c (k : Int) (by omega) (by omega)
    rw [List.length_drop]
    simpa only [Int.toNat_natCast, Nat.mul_one] using this
  · rw [List.length_drop]
    exact Kd.C_of_reads (hR.drop_ k hk hc)
theorem take_more (g : Nat) (n : Nat) (xs : List Int) (A : Option Addr) (c : Nat) (w : World) (hb : w.heap[g]? = some (.cells #[.slice A xs.length c] 77 (0, 0))) (hn : xs.length < n) (hm : n ≤ 9223372036854775807) : Calls Try.prog 46 #[.pointer (some ⟨g, 0, none⟩), .int .i64 (n : Int)] w fun e w' => e = .panicked [{ v := wrongV, recovered := false }] ∧ w = w' := by
  have hc0 : w.cell? ⟨g, 0, none⟩ = some (.slice A xs.length c) := (blk_cell hb 0).trans rfl
  have hd : decide (n ≤ xs.length) = false := decide_eq_false (by omega)
  have HD := Aside0.mk hd
  have HM := Aside0.mk must_false
  clear hb
  go_enter Try.func46, Try.ntmps46
  go_wp2_with fail
  try rw [HD.out]
  refine (HM.out _).mono ?_
  rintro e w' ⟨rfl, rfl⟩
  go_wp2_with fail
  exact ⟨rfl, rfl, rfl⟩
theorem take_some (g : Nat) (n : Nat) (xs : List Int) (A : Option Addr) (c : Nat) (Wz w : World) (hb : w.heap[g]? = some (.cells #[.slice A xs.length c] 77 (0, 0))) (hx : kB.C Wz A xs.length xs) (hc : xs.length ≤ c) (hn : n ≤ xs.length) : Calls Try.prog 46 #[.pointer (some ⟨g, 0, none⟩), .int .i64 (n : Int)] w fun e w' => ∃ A' c', e = .returned (.slice A n c) ∧ w' = w.setCell ⟨g, 0, none⟩ (.slice A' (xs.drop n).length c') ∧ kB.C Wz A n (xs.take n) ∧ kB.C Wz A' (xs.drop n).length (xs.drop n) ∧ (xs.drop n).length ≤ c' := by
  have hc0 : w.cell? ⟨g, 0, none⟩ = some (.slice A xs.length c) := (blk_cell hb 0).trans rfl
  have hf0 := blk_frozen hb 0
  have hd : decide (n ≤ xs.length) = true := decide_eq_true hn
  have HD := Aside0.mk hd
  obtain ⟨h1, h2, h3, A', c', h4, h5, h6⟩ := cut_bytes hx hc n hn
  rw [h3] at h2
  have H2 := Aside0.mk h2
  have H5 := Aside0.mk h5
  have H6 := Aside0.mk h6
  have HM := Aside0.mk must_true
  obtain ⟨D, hD⟩ : ∃ D, D = xs.drop n := ⟨_, rfl⟩
  rw [← hD] at h4 H5 H6 ⊢
  clear hb h2 h3 h5 h6 hD hx
  go_enter Try.func46, Try.ntmps46
  go_wp2_with fail
  try rw [HD.out]
  refine (HM.out _).mono ?_
  rintro e w' ⟨rfl, rfl⟩
  go_wp2_with fail
  go_ret
  exact ⟨A', c', rfl, rfl, H2.out, H5.out, H6.out⟩
end Go.Proofs.Ytgemcomcjojjbaa.PS
