/- numbers of package sums, with the two of package slices that it calls: are all numbers from 0 to 3, or 9? No conditions. -/
import Derived.Test.YtgemcomcjojjbaaPSx0
import Derived.Deep.LoopGhost
import Derived.Deep.QuietTactic
namespace Go.Proofs.Ytgemcomcjojjbaa.PS
open Go.RowKit Go.Proofs.YtgemcomcjojjbaaW.PrintWords Go.Proofs.YtgemcomcjojjbaaW.PrintLast Go.Proofs.YtgemcomcjojjbaaW.PrintMore
set_option linter.unusedVariables false
set_option linter.unusedSimpArgs false

def isN (d : Int) : Bool := d == 9 || (decide (0 ≤ d) && decide (d ≤ 3))
theorem ret_b {a b : Bool} (h : a = b) : Ending.returned (.bool a) = .returned (.bool b) := by rw [h]
theorem num1 (d : Int) (W : World) : Calls Try.prog 44 #[.int .i64 d] W fun e w' => e = .returned (.bool (!isN d)) ∧ W = w' := by
  by_cases h9 : d = 9
  · subst h9
    go_enter Try.func44, Try.ntmps44
    go_wp2
    all_goals
      go_ret
      exact ⟨rfl, rfl⟩
  · have e9 : (d != 9) = true := by simpa using h9
    have e9' : (d == 9) = false := by simpa using h9
    by_cases h0 : d < 0
    · have e0 : decide (d < 0) = true := decide_eq_true h0
      have HP : Aside0 (true = !isN d) := ⟨by unfold isN; rw [e9', decide_eq_false (show ¬ 0 ≤ d by omega)]; rfl⟩
      clear h9 h0
      go_enter Try.func44, Try.ntmps44
      go_wp2
      all_goals
        go_ret
        exact ⟨ret_b (by first | exact HP.out | (rw [← HP.out]; first | rfl | (simp; done))), rfl⟩
    · have e0 : decide (d < 0) = false := decide_eq_false h0
      by_cases h3 : 3 < d
      · have e3 : decide (3 < d) = true := decide_eq_true h3
        have HP : Aside0 (true = !isN d) := ⟨by unfold isN; rw [e9', decide_eq_false (show ¬ d ≤ 3 by omega), Bool.and_false]; rfl⟩
        clear h9 h0 h3
        go_enter Try.func44, Try.ntmps44
        go_wp2
        all_goals
          go_ret
          exact ⟨ret_b (by first | exact HP.out | (rw [← HP.out]; first | rfl | (simp; done))), rfl⟩
      · have e3 : decide (3 < d) = false := decide_eq_false h3
        have HP : Aside0 (false = !isN d) := ⟨by unfold isN; rw [e9', decide_eq_true (show 0 ≤ d by omega), decide_eq_true (show d ≤ 3 by omega)]; rfl⟩
        clear h9 h0 h3
        go_enter Try.func44, Try.ntmps44
        go_wp2
        all_goals
          go_ret
          exact ⟨ret_b (by first | exact HP.out | (rw [← HP.out]; first | rfl | (simp; done))), rfl⟩
theorem wrap_in {x : Int} (h0 : -9223372036854775808 ≤ x) (h1 : x ≤ 9223372036854775807) : wrap64 x = x := by unfold wrap64; omega
theorem rd_get (xs : List Int) (i : Nat) (h : i < xs.length) : rd xs (i : Int) = xs[i] := by unfold rd; rw [Int.toNat_natCast, List.getD_eq_getElem?_getD, List.getElem?_eq_getElem h]; rfl
theorem all_next (xs : List Int) (q : Nat) (h : q < xs.length) : (xs.take (q + 1)).all isN = ((xs.take q).all isN && isN (rd xs (q : Int))) := by
  rw [List.take_succ_eq_append_getElem h, List.all_append, rd_get xs q h]
  simp
theorem index_any (xs : List Int) (A : Option Addr) (c : Nat) (W : World) (hr : Kd.C (Kd.int .i64) W A xs.length xs) (hc : xs.length ≤ c) : Calls Try.prog 47 #[.slice A xs.length c, .func (Fn.func 44) #[] #[]] W fun e w' => ∃ i : Int, e = .returned (.int .i64 i) ∧ (decide (0 ≤ i)) = (!xs.all isN) ∧ W = w' := by
  have HR := Aside0.mk hr
  have hm : xs.length ≤ 9223372036854775807 := Kd.C_max hr
  have HN := Aside0.mk num1
  clear hr
  go_enter Try.func47, Try.ntmps47
  go_wp2_with fail
  go_loopw [8] (fun v8 w' => ∃ q : Nat, q ≤ xs.length ∧ v8 = .int .i64 (q : Int) ∧ Aside0 ((xs.take q).all isN = true) ∧ W = w') (fun i _ => xs.length - (intOf i).toNat)
  case atStart => exact ⟨0, Nat.zero_le _, rfl, ⟨by simp⟩, rfl⟩
  case round =>
    obtain ⟨q, hq, rfl, HA, rfl⟩ := hrel
    by_cases hlt : q < xs.length
    · have h0 : (0 : Int) ≤ q := by omega
      have h1 : (q : Int) < xs.length := by omega
      obtain ⟨ad, e0, hx⟩ := Kd.at_int HR.out (q : Int) h0 h1
      cases e0
      simp only [Int.toNat_natCast] at hx
      have hwp : wrap64 ((q : Int) + 1) = (q : Int) + 1 := wrap_in (by omega) (by omega)
      have HX := Aside0.mk (all_next xs q hlt)
      obtain ⟨x, hxx⟩ : ∃ x, x = rd xs (q : Int) := ⟨_, rfl⟩
      rw [← hxx] at hx HX
      have HM : Aside0 (x ∈ xs) := ⟨by rw [hxx, rd_get xs q hlt]; exact List.getElem_mem _⟩
      clear hxx
      go_wp2_with fail
      refine (HN.out x _).mono ?_
      rintro e w' ⟨rfl, rfl⟩
      cases hn : isN x with
      | true =>
        have HX2 : Aside0 ((xs.take (q + 1)).all isN = true) := ⟨by rw [HX.out, HA.out, hn]; rfl⟩
        simp only [Bool.not_true]
        go_wp2_with fail
        go_roundw
        case rel => exact ⟨q + 1, by omega, by go_num, HX2, trivial⟩
        case measure => simp [intOf]; omega
      | false =>
        have HF : Aside0 (xs.all isN = false) := ⟨by rw [Bool.eq_false_iff]; intro h; rw [List.all_eq_true] at h; rw [h x HM.out] at hn; cases hn⟩
        simp only [Bool.not_false]
        go_wp2_with fail
        go_ret
        exact ⟨_, rfl, by rw [HF.out, decide_eq_true h0]; rfl, rfl⟩
    · obtain rfl : q = xs.length := by omega
      rw [List.take_of_length_le (Nat.le_refl _)] at HA
      go_wp2_with fail
      go_ret
      exact ⟨_, rfl, by rw [HA.out]; rfl, rfl⟩
theorem contains_any (xs : List Int) (A : Option Addr) (c : Nat) (W : World) (hr : Kd.C (Kd.int .i64) W A xs.length xs) (hc : xs.length ≤ c) : Calls Try.prog 43 #[.slice A xs.length c, .func (Fn.func 44) #[] #[]] W fun e w' => e = .returned (.bool (!xs.all isN)) ∧ W = w' := by
  have HI := Aside0.mk (index_any xs A c W hr hc)
  go_enter Try.func43, Try.ntmps43
  go_wp2_with fail
  refine HI.out.mono ?_
  rintro e w' ⟨i, rfl, hi, rfl⟩
  have HE := Aside0.mk hi
  clear hi
  go_wp2
  go_ret
  exact ⟨ret_b (by rw [← HE.out]), rfl⟩
theorem numbers_any (xs : List Int) (A : Option Addr) (c : Nat) (W : World) (hr : Kd.C (Kd.int .i64) W A xs.length xs) (hc : xs.length ≤ c) : Calls Try.prog 37 #[.slice A xs.length c] W fun e w' => e = .returned (.bool (xs.all isN)) ∧ W = w' := by
  have HI := Aside0.mk (contains_any xs A c W hr hc)
  go_enter Try.func37, Try.ntmps37
  go_wp2_with fail
  refine HI.out.mono ?_
  rintro e w' ⟨rfl, rfl⟩
  go_wp2
  go_ret
  exact ⟨ret_b (by simp), rfl⟩
end Go.Proofs.Ytgemcomcjojjbaa.PS
