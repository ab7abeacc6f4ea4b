/- The law WeighPlus answers true for every three ints, and leaves all that was there as it was. Conditions: none. -/
import Derived.Test.YtmjdiiockddalaaPWx4
import Derived.Test.YtmjdiiockddalaaHSol
import Derived.Test.YtmjdiiockddalaaHRefP
namespace Go.Proofs.Ytmjdiiockddalaa.PW
open Go.RowKit Go.Maps Go.Proofs.YtmjdiiockddalaaW.PrintWords Go.Proofs.YtmjdiiockddalaaW.PrintLast Go.Proofs.YtmjdiiockddalaaW.PrintMore
set_option linter.unusedVariables false
set_option linter.unusedSimpArgs false
attribute [local go_sem] max2_int min2_int max_two min_two

/-! what the document tells of a small graph -/
theorem from_small : weigh_From.f 4 [(⟨0, 1, 0⟩ : S41), ⟨1, 2, 1⟩, ⟨2, 3, -1⟩] [0] = some ([0, 0, 1, 0], 0) := by decide +kernel
theorem eqints_l0 (xs ys : List Int) (h : xs.length = ys.length) (hl : xs.length ≤ 9223372036854775807) : ∀ (d i : Nat), xs.length - i = d → i ≤ xs.length → Ev (fun k => fugueref00_EqInts.l0 k xs ys (i : Int)) (xs.drop i == ys.drop i) := by
  intro d
  induction d with
  | zero =>
    intro i hd hi
    refine Ev.step (f := fun _ => some true) (fun k => by simp only [fugueref00_EqInts.l0]; rw [if_neg (by omega)]) ?_
    rw [List.drop_eq_nil_of_le (by omega), List.drop_eq_nil_of_le (by omega)]
    exact Ev.now _
  | succ d ih =>
    intro i hd hi
    have hx : i < xs.length := by omega
    have hy : i < ys.length := by omega
    have e1 : rd xs (i : Int) = xs[i] := by unfold rd; rw [Int.toNat_natCast, List.getD_eq_getElem?_getD, List.getElem?_eq_getElem hx]; rfl
    have e2 : rd ys (i : Int) = ys[i] := by unfold rd; rw [Int.toNat_natCast, List.getD_eq_getElem?_getD, List.getElem?_eq_getElem hy]; rfl
    refine Ev.step (fun k => by simp only [fugueref00_EqInts.l0]; rw [if_pos (by omega), if_pos (by omega), if_pos (by omega), e1, e2, wrap_in (by omega) (by omega)]) ?_
    rw [List.drop_eq_getElem_cons hx, List.drop_eq_getElem_cons hy, List.cons_beq_cons]
    by_cases he : xs[i] = ys[i]
    · simp only [if_pos he]
      rw [beq_iff_eq.2 he, Bool.true_and]
      exact ih (i + 1) (by omega) (by omega)
    · simp only [if_neg he]
      rw [beq_eq_false_iff_ne.2 he, Bool.false_and]
      exact Ev.now _
theorem eqints_ev (xs ys : List Int) (hl : xs.length ≤ 9223372036854775807) : Ev (fun k => fugueref00_EqInts.f k xs ys) (xs == ys) := by
  unfold fugueref00_EqInts.f
  by_cases h : xs.length = ys.length
  · simp only [if_pos (show (xs.length : Int) = (ys.length : Int) by omega)]
    simpa using eqints_l0 xs ys h hl xs.length 0 (by omega) (by omega)
  · simp only [if_neg (show ¬ (xs.length : Int) = (ys.length : Int) by omega)]
    rw [beq_eq_false_iff_ne.2 (fun he => h (by rw [he]))]
    exact Ev.now _
theorem fixed_ev : Ev (fun k => fuguelaw06_fixed.f k) true := by
  unfold fuguelaw06_fixed.f
  refine Ev.bind (a := ([0, 0, 1, 0], 0)) (Ev.congr (fun _ => from_small) (Ev.now _)) ?_
  refine Ev.bind (eqints_ev [0, 0, 1, 0] [0, 0, 1, 0] (by simp)) ?_
  exact Ev.now _
theorem fixed_any (W : World) : Calls Try.prog 10 #[] W fun e w' => e = .returned (.bool true) ∧ Below W.heap.size W w' := by
  obtain ⟨k, h⟩ := fixed_ev.rounds
  exact fuguelaw06_fixed.calls k true W h

def meet (a b : Int) : Int := mn (wt a) (wt b)
theorem ret_iff {k : IntKind} {a b : Int} (h : a = b) : Ending.returned (.int k a) = .returned (.int k b) := by rw [h]
theorem meet_any (d x : Int) (W : World) : Calls Try.prog 22 #[.int .i64 d, .int .i64 x] W fun e w' => e = .returned (.int .i64 (meet d x)) ∧ W = w' := by
  obtain ⟨a, ha⟩ : ∃ a, a = wt d := ⟨_, rfl⟩
  obtain ⟨b, hb⟩ : ∃ b, b = wt x := ⟨_, rfl⟩
  have HP : Aside0 (meet d x = mn a b) := ⟨by rw [ha, hb]; rfl⟩
  have C1 : Aside0 (∀ W, Calls Try.prog 35 #[.int .i64 d] W fun e w' => e = .returned (.int .i64 a) ∧ W = w') := ⟨fun W => by rw [ha]; exact weight_any d W⟩
  have C2 : Aside0 (∀ W, Calls Try.prog 35 #[.int .i64 x] W fun e w' => e = .returned (.int .i64 b) ∧ W = w') := ⟨fun W => by rw [hb]; exact weight_any x W⟩
  clear ha hb
  go_enter Try.func22, Try.ntmps22
  go_wp2_with fail
  refine (C1.out _).mono ?_
  rintro e w' ⟨rfl, rfl⟩
  go_wp2_with fail
  refine (C2.out _).mono ?_
  rintro e w' ⟨rfl, rfl⟩
  go_wp2
  all_goals
    go_ret
    refine ⟨ret_i ?_, rfl⟩
    rw [HP.out]
    unfold mn
    (repeat' split) <;> omega
theorem ref_weight_f (d : Int) : fugueref06_weight.f d = some (wt d) := by unfold fugueref06_weight.f wt; split <;> (try split) <;> rfl
theorem rmeet_any (a b : Int) (W : World) : Calls Try.prog 23 #[.int .i64 a, .int .i64 b] W fun e w' => e = .returned (.int .i64 (meet a b)) ∧ Drawn0 W w' :=
  fugueref06_Meet.calls a b (meet a b) W (by unfold fugueref06_Meet.f meet mn; rw [ref_weight_f, ref_weight_f]; simp only [Option.bind_some]; (repeat' split) <;> first | rfl | (congr 1; omega))
def IsW (a : Int) : Prop := a = 9 ∨ (-1 ≤ a ∧ a ≤ 3)
theorem weight_some (x : Int) : ∃ v, fuguelaw06_weight.f x = some v ∧ IsW v := by
  have h1 : Int.tmod x 6 = x % 6 ∨ Int.tmod x 6 = x % 6 - 6 := by
    rw [Int.tmod_eq_emod]; split <;> simp
  have h2 := Int.emod_nonneg x (show (6 : Int) ≠ 0 by decide)
  have h3 := Int.emod_lt_of_pos x (show (0 : Int) < 6 by decide)
  unfold fuguelaw06_weight.f
  generalize Int.tmod x 6 = m at *
  have hm0 : -6 ≤ m := by omega
  have hm1 : m ≤ 5 := by omega
  split
  · rw [wrap_in (show -9223372036854775808 ≤ m + 6 by omega) (by omega)]
    split
    · exact ⟨9, rfl, .inl rfl⟩
    · rw [wrap_in (by omega) (by omega)]
      exact ⟨_, rfl, by unfold IsW; omega⟩
  · split
    · exact ⟨9, rfl, .inl rfl⟩
    · rw [wrap_in (by omega) (by omega)]
      exact ⟨_, rfl, by unfold IsW; omega⟩
theorem isW_wt {a : Int} (h : IsW a) : wt a = a := by
  rcases h with rfl | h
  · rfl
  · exact wt_eq h.1 h.2
theorem meet_eq {a b : Int} (ha : IsW a) (hb : IsW b) : meet a b = mn a b := by unfold meet; rw [isW_wt ha, isW_wt hb]
theorem isW_mn {a b : Int} (ha : IsW a) (hb : IsW b) : IsW (mn a b) := by unfold mn; split <;> assumption
theorem isW_plus {a b : Int} (ha : IsW a) (hb : IsW b) : IsW (plus a b) := by
  rcases ha with rfl | ha
  · exact .inl (plus_nine b)
  · rcases hb with rfl | hb
    · refine .inl ?_
      unfold plus
      rw [wt_eq ha.1 ha.2, if_neg (by omega)]
      rfl
    · have := plus_range ha.1 ha.2 hb.1 hb.2
      exact .inr this
theorem plus_nine' {a : Int} (ha : IsW a) : plus a 9 = 9 := by
  unfold plus
  rw [isW_wt ha]
  split
  · rfl
  · rfl
theorem plus_mono1 {a c b : Int} (ha : IsW a) (hc : IsW c) (hb : IsW b) (h : a ≤ c) : plus a b ≤ plus c b := by
  rcases hb with rfl | hb
  · rw [plus_nine' ha, plus_nine' hc]; omega
  · exact plus_mono h (by rcases ha with rfl | ha <;> omega) (by rcases hc with rfl | hc <;> omega) (by rcases ha with rfl | ha <;> omega) hb.1 hb.2
theorem plus_mono2 {a b c : Int} (ha : IsW a) (hb : IsW b) (hc : IsW c) (h : b ≤ c) : plus a b ≤ plus a c := by
  rcases ha with rfl | ha
  · rw [plus_nine, plus_nine]; omega
  · rcases hc with rfl | hc
    · rw [plus_nine' (.inr ha)]
      rcases isW_plus (.inr ha) hb with h1 | h1 <;> omega
    · have hb' : -1 ≤ b ∧ b ≤ 3 := by rcases hb with rfl | hb <;> omega
      rw [plus_eq ha.1 ha.2 hb'.1 hb'.2, plus_eq ha.1 ha.2 hc.1 hc.2]
      unfold mn mx; (repeat' split) <;> omega
theorem plus_ge {a b : Int} (ha : IsW a) (hb : IsW b) : b ≤ plus a b := by
  rcases ha with rfl | ha
  · rw [plus_nine]; rcases hb with rfl | hb <;> omega
  · rcases hb with rfl | hb
    · rw [plus_nine' (.inr ha)]; omega
    · rw [plus_eq ha.1 ha.2 hb.1 hb.2]
      unfold mn mx; (repeat' split) <;> omega
theorem plus_zero {a : Int} (ha : IsW a) (h : 0 ≤ a) : plus a 0 = a := by
  rcases ha with rfl | ha
  · rw [plus_nine]
  · rw [plus_eq ha.1 ha.2 (by omega) (by omega)]
    unfold mn mx; (repeat' split) <;> omega
theorem plus_meet1 {a b c : Int} (ha : IsW a) (hb : IsW b) (hc : IsW c) : plus (meet a c) b = meet (plus a b) (plus c b) := by
  rw [meet_eq ha hc, meet_eq (isW_plus ha hb) (isW_plus hc hb)]
  rcases Int.le_total a c with h | h
  · have h1 := plus_mono1 ha hc hb h
    unfold mn; (repeat' split) <;> first | rfl | omega | (have : a = c := by omega
                                                          subst this; rfl)
  · have h1 := plus_mono1 hc ha hb h
    unfold mn; (repeat' split) <;> first | rfl | omega | (have : a = c := by omega
                                                          subst this; rfl)
theorem plus_meet2 {a b c : Int} (ha : IsW a) (hb : IsW b) (hc : IsW c) : plus a (meet b c) = meet (plus a b) (plus a c) := by
  rw [meet_eq hb hc, meet_eq (isW_plus ha hb) (isW_plus ha hc)]
  rcases Int.le_total b c with h | h
  · have h1 := plus_mono2 ha hb hc h
    unfold mn; (repeat' split) <;> first | rfl | omega | (have : b = c := by omega
                                                          subst this; rfl)
  · have h1 := plus_mono2 ha hc hb h
    unfold mn; (repeat' split) <;> first | rfl | omega | (have : b = c := by omega
                                                          subst this; rfl)
theorem meet_comm {a b : Int} (ha : IsW a) (hb : IsW b) : meet b a = meet a b := by rw [meet_eq ha hb, meet_eq hb ha]; unfold mn; (repeat' split) <;> omega
theorem meet_assoc {a b c : Int} (ha : IsW a) (hb : IsW b) (hc : IsW c) : meet a (meet b c) = meet (meet a b) c := by
  rw [meet_eq hb hc, meet_eq ha (isW_mn hb hc), meet_eq ha hb, meet_eq (isW_mn ha hb) hc]; unfold mn; (repeat' split) <;> omega
theorem meet_self {a : Int} (ha : IsW a) : meet a a = a := by rw [meet_eq ha ha]; unfold mn; split <;> rfl
theorem meet_le {a b : Int} (ha : IsW a) (hb : IsW b) : meet a b ≤ a ∧ meet a b ≤ b ∧ (meet a b = a ∨ meet a b = b) := by rw [meet_eq ha hb]; unfold mn; split <;> omega

theorem weight24 (x v : Int) (h : fuguelaw06_weight.f x = some v) (W : World) : Calls Try.prog 24 #[.int .i64 x] W fun e w' => e = .returned (.int .i64 v) ∧ Drawn0 W w' := fuguelaw06_weight.calls x v W h

set_option maxHeartbeats 8000000 in
set_option maxRecDepth 100000 in
theorem plus_law (x y z : Int) (w : World) : Calls Try.prog 8 #[.int .i64 x, .int .i64 y, .int .i64 z] w fun e w' => e = .returned (.bool true) ∧ Below w.heap.size w w' := by
  obtain ⟨a, fa, wa⟩ := weight_some x
  obtain ⟨b, fb, wb⟩ := weight_some y
  obtain ⟨c, fc, wc⟩ := weight_some z
  have Fa := Aside0.mk (weight24 x a fa)
  have Fb := Aside0.mk (weight24 y b fb)
  have Fc := Aside0.mk (weight24 z c fc)
  have M1 := Aside0.mk (fun h => plus_mono1 wa wc wb h)
  have M2 := Aside0.mk (fun h => plus_mono2 wa wb wc h)
  have E1 := plus_meet1 wa wb wc
  have E2 := plus_meet2 wa wb wc
  have E3 := meet_comm wa wb
  have E4 := meet_assoc wa wb wc
  have E5 := meet_self wa
  have G := plus_ge wa wb
  have Z := Aside0.mk (plus_zero wa)
  obtain ⟨L1, L2, L3⟩ := meet_le wa wb
  clear fa fb fc wa wb wc
  have HPl := Aside0.mk plus_any
  have HRp := Aside0.mk plus21
  have HM := Aside0.mk meet_any
  have HRm := Aside0.mk rmeet_any
  have HF := Aside0.mk fixed_any
  go_enter Try.func8, Try.ntmps8
  go_wp2_with fail
  refine (HF.out _).mono ?_
  rintro e w1 ⟨rfl, hb1⟩
  have HB := Aside0.mk hb1
  clear hb1
  go_wp2_with (first | (go_at_call 17; refine (HPl.out _ _ _).mono ?_; rintro e w' ⟨rfl, rfl⟩) | (go_at_call 21; refine (HRp.out _ _ _).mono ?_; rintro e w' ⟨rfl, rfl⟩) | (go_at_call 22; refine (HM.out _ _ _).mono ?_; rintro e w' ⟨rfl, rfl⟩) | (go_at_call 23; refine (HRm.out _ _ _).mono ?_; rintro e w' ⟨rfl, ⟨n, rfl⟩⟩))
  refine (Fa.out _).mono ?_
  rintro e w' ⟨rfl, ⟨n1, rfl⟩⟩
  go_wp2_with fail
  refine (Fb.out _).mono ?_
  rintro e w' ⟨rfl, ⟨n2, rfl⟩⟩
  go_wp2_with fail
  refine (Fc.out _).mono ?_
  rintro e w' ⟨rfl, ⟨n3, rfl⟩⟩
  by_cases h1 : a ≤ c <;> by_cases h2 : b ≤ c <;> by_cases h0 : 0 ≤ a
  all_goals
    (try have hp1 := M1.out h1)
    (try have hp2 := M2.out h2)
    (try have hz := Z.out h0)
    go_wp2_with (first | (go_at_call 17; refine (HPl.out _ _ _).mono ?_; rintro e w' ⟨rfl, rfl⟩) | (go_at_call 22; refine (HM.out _ _ _).mono ?_; rintro e w' ⟨rfl, rfl⟩))
    all_goals
      go_ret
      exact ⟨rfl, pw_below_drewN HB.out _⟩
end Go.Proofs.Ytmjdiiockddalaa.PW
