import Derived.Test.YtmjdiiockddalaaHSol
namespace Go.Proofs.Ytmjdiiockddalaa.PW
open Go.RowKit Go.Maps Go.Proofs.YtmjdiiockddalaaW.PrintWords Go.Proofs.YtmjdiiockddalaaW.PrintLast Go.Proofs.YtmjdiiockddalaaW.PrintMore
set_option linter.unusedVariables false
set_option linter.unusedSimpArgs false

theorem weight36 (d : Int) (W : World) : Calls Try.prog 36 #[.int .i64 d] W fun e w' => e = .returned (.int .i64 (wt d)) ∧ W = w' := by
  by_cases h1 : d < -1
  · go_enter Try.func36, Try.ntmps36
    go_wp2
    go_ret
    exact ⟨ret_i (by unfold wt; (repeat' split) <;> omega), rfl⟩
  · by_cases h2 : 3 < d
    · go_enter Try.func36, Try.ntmps36
      go_wp2
      go_ret
      exact ⟨ret_i (by unfold wt; (repeat' split) <;> omega), rfl⟩
    · go_enter Try.func36, Try.ntmps36
      go_wp2
      go_ret
      exact ⟨ret_i (by unfold wt; (repeat' split) <;> omega), rfl⟩
theorem wt_cases (d : Int) : wt d = 9 ∨ (-1 ≤ wt d ∧ wt d ≤ 3) := by unfold wt; (repeat' split) <;> omega
theorem plus21 (d x : Int) (W : World) : Calls Try.prog 21 #[.int .i64 d, .int .i64 x] W fun e w' => e = .returned (.int .i64 (plus d x)) ∧ W = w' := by
  have q1 := wt_cases d
  have q2 := wt_cases x
  obtain ⟨a, ha⟩ : ∃ a, a = wt d := ⟨_, rfl⟩
  obtain ⟨b, hb⟩ : ∃ b, b = wt x := ⟨_, rfl⟩
  have hp : plus d x = if a = 9 then 9 else if b = 9 then 9 else mn (mx a 0 + b) 3 := by rw [ha, hb]; rfl
  have c1 : ∀ W, Calls Try.prog 36 #[.int .i64 d] W fun e w' => e = .returned (.int .i64 a) ∧ W = w' := fun W => by rw [ha]; exact weight36 d W
  have c2 : ∀ W, Calls Try.prog 36 #[.int .i64 x] W fun e w' => e = .returned (.int .i64 b) ∧ W = w' := fun W => by rw [hb]; exact weight36 x W
  have C1 := Aside0.mk c1
  have C2 := Aside0.mk c2
  have HP := Aside0.mk hp
  rw [← ha] at q1
  rw [← hb] at q2
  clear c1 c2 hp ha hb
  by_cases e1 : a = 9
  · clear q1 q2
    go_enter Try.func21, Try.ntmps21
    go_wp2_with fail
    refine (C1.out _).mono ?_
    rintro e w' ⟨rfl, rfl⟩
    go_wp2_with fail
    refine (C2.out _).mono ?_
    rintro e w' ⟨rfl, rfl⟩
    go_wp2
    go_ret
    exact ⟨ret_i (by rw [HP.out, if_pos e1]), rfl⟩
  · replace q1 := q1.resolve_left e1
    have e1' : (a == 9) = false := by simpa using e1
    by_cases e2 : b = 9
    · clear q2
      go_enter Try.func21, Try.ntmps21
      go_wp2_with fail
      refine (C1.out _).mono ?_
      rintro e w' ⟨rfl, rfl⟩
      go_wp2_with fail
      refine (C2.out _).mono ?_
      rintro e w' ⟨rfl, rfl⟩
      go_wp2
      go_ret
      exact ⟨ret_i (by rw [HP.out, if_neg e1, if_pos e2]), rfl⟩
    · replace q2 := q2.resolve_left e2
      have e2' : (b == 9) = false := by simpa using e2
      obtain ⟨q3, q4⟩ := q1
      obtain ⟨q5, q6⟩ := q2
      by_cases e3 : a < 0
      · have hr : plus d x = b := by rw [HP.out, if_neg e1, if_neg e2]; unfold mn mx; (repeat' split) <;> omega
        have HR := Aside0.mk hr
        clear hr
        go_enter Try.func21, Try.ntmps21
        go_wp2_with fail
        refine (C1.out _).mono ?_
        rintro e w' ⟨rfl, rfl⟩
        go_wp2_with fail
        refine (C2.out _).mono ?_
        rintro e w' ⟨rfl, rfl⟩
        go_wp2
        go_ret
        exact ⟨ret_i (by rw [HR.out]), rfl⟩
      · by_cases e4 : 3 < a + b
        · have hr : plus d x = 3 := by rw [HP.out, if_neg e1, if_neg e2]; unfold mn mx; (repeat' split) <;> omega
          have HR := Aside0.mk hr
          clear hr
          go_enter Try.func21, Try.ntmps21
          go_wp2_with fail
          refine (C1.out _).mono ?_
          rintro e w' ⟨rfl, rfl⟩
          go_wp2_with fail
          refine (C2.out _).mono ?_
          rintro e w' ⟨rfl, rfl⟩
          go_wp2
          go_ret
          exact ⟨ret_i (by rw [HR.out]), rfl⟩
        · have hr : plus d x = a + b := by rw [HP.out, if_neg e1, if_neg e2]; unfold mn mx; (repeat' split) <;> omega
          have HR := Aside0.mk hr
          clear hr
          go_enter Try.func21, Try.ntmps21
          go_wp2_with fail
          refine (C1.out _).mono ?_
          rintro e w' ⟨rfl, rfl⟩
          go_wp2_with fail
          refine (C2.out _).mono ?_
          rintro e w' ⟨rfl, rfl⟩
          go_wp2
          go_ret
          exact ⟨ret_i (by rw [HR.out]), rfl⟩
def fugueref06_Plus.f (a0 a1 : Int) : Option Int := some (plus a0 a1)
theorem fugueref06_Plus.calls (a0 a1 r : Int) (w : World) (h : fugueref06_Plus.f a0 a1 = some r) : Calls Try.prog 21 #[.int .i64 a0, .int .i64 a1] w fun e w' => e = .returned (.int .i64 r) ∧ Drawn0 w w' := by
  obtain rfl := Option.some.inj h
  refine (plus21 a0 a1 w).mono ?_
  rintro e w' ⟨rfl, rfl⟩
  exact ⟨rfl, Drawn0.refl _⟩
end Go.Proofs.Ytmjdiiockddalaa.PW
