import Derived.Test.YtmjdiiockddalaaHWalk
namespace Go.Proofs.Ytmjdiiockddalaa.PW
open Go.RowKit Go.Maps Go.Proofs.YtmjdiiockddalaaW.PrintWords Go.Proofs.YtmjdiiockddalaaW.PrintLast Go.Proofs.YtmjdiiockddalaaW.PrintMore
set_option linter.unusedVariables false
set_option linter.unusedSimpArgs false

theorem weight_f (d : Int) : weigh_weight.f d = some (wt d) := by unfold weigh_weight.f wt; split <;> (try split) <;> rfl
theorem wrap_in {x : Int} (h0 : -9223372036854775808 ≤ x) (h1 : x ≤ 9223372036854775807) : wrap64 x = x := by unfold wrap64; omega

def okE (n : Int) (e : S41) : Bool := decide (0 ≤ e.f0 ∧ e.f0 < n ∧ 0 ≤ e.f1 ∧ e.f1 < n ∧ -1 ≤ e.f2 ∧ e.f2 ≤ 3)
def okR (n : Int) (r : Int) : Bool := decide (0 ≤ r ∧ r < n)
def okG (n : Int) (es : List S41) (rs : List Int) : Bool := decide (0 ≤ n ∧ n ≤ 1048576) && es.all (okE n) && rs.all (okR n)

theorem valid_l1 (n : Int) (rs : List Int) (hr : rs.length ≤ 9223372036854775807) : ∀ (d i : Nat), rs.length - i = d → i ≤ rs.length → Ev (fun k => weigh_valid.l1 k n rs (rs.length : Int) (i : Int)) ((rs.drop i).all (okR n)) := by
  intro d
  induction d with
  | zero =>
    intro i hd hi
    refine Ev.step (f := fun _ => some true) (fun k => ?_) ?_
    · simp only [weigh_valid.l1]
      rw [if_neg (by omega)]
    · have : rs.drop i = [] := List.drop_eq_nil_of_le (by omega)
      rw [this]
      exact Ev.now _
  | succ d ih =>
    intro i hd hi
    have hlt : i < rs.length := by omega
    have hdrop : rs.drop i = rs[i] :: rs.drop (i + 1) := List.drop_eq_getElem_cons hlt
    have hrd : rd rs (i : Int) = rs[i] := by unfold rd; rw [Int.toNat_natCast, List.getD_eq_getElem?_getD, List.getElem?_eq_getElem hlt]; rfl
    refine Ev.step (fun k => by simp only [weigh_valid.l1]; rw [if_pos (by omega), if_pos (by omega), if_pos (by omega), hrd, wrap_in (by omega) (by omega)]) ?_
    rw [hdrop, List.all_cons]
    by_cases h1 : rs[i] < 0
    · have : okR n rs[i] = false := by unfold okR; simp; omega
      rw [this]
      simp only [if_pos h1]
      exact Ev.now _
    · simp only [if_neg h1]
      by_cases h2 : rs[i] ≥ n
      · have : okR n rs[i] = false := by unfold okR; simp; omega
        rw [this]
        simp only [if_pos h2]
        exact Ev.now _
      · have : okR n rs[i] = true := by unfold okR; simp; omega
        rw [this]
        simp only [if_neg h2, Bool.true_and]
        exact ih (i + 1) (by omega) (by omega)
theorem valid_l0 (n : Int) (es : List S41) (rs : List Int) (he : es.length ≤ 9223372036854775807) (hr : rs.length ≤ 9223372036854775807) : ∀ (d i : Nat), es.length - i = d → i ≤ es.length → Ev (fun k => weigh_valid.l0 k n rs es (es.length : Int) (i : Int)) ((es.drop i).all (okE n) && rs.all (okR n)) := by
  intro d
  induction d with
  | zero =>
    intro i hd hi
    refine Ev.step (f := fun k => weigh_valid.l1 k n rs (rs.length : Int) 0) (fun k => ?_) ?_
    · simp only [weigh_valid.l0]
      rw [if_neg (by omega)]
    · have : es.drop i = [] := List.drop_eq_nil_of_le (by omega)
      rw [this]
      simpa using valid_l1 n rs hr rs.length 0 (by omega) (by omega)
  | succ d ih =>
    intro i hd hi
    have hlt : i < es.length := by omega
    have hdrop : es.drop i = es[i] :: es.drop (i + 1) := List.drop_eq_getElem_cons hlt
    have hrd : rd_T41 es (i : Int) = es[i] := by unfold rd_T41; rw [Int.toNat_natCast, List.getD_eq_getElem?_getD, List.getElem?_eq_getElem hlt]; rfl
    refine Ev.step (fun k => by simp only [weigh_valid.l0]; rw [if_pos (by omega), if_pos (by omega), if_pos (by omega), hrd, weight_f, wrap_in (by omega) (by omega)]) ?_
    simp only [Option.bind_some]
    rw [hdrop, List.all_cons]
    generalize es[i] = e
    have hw : wt e.f2 = 9 ↔ ¬ (-1 ≤ e.f2 ∧ e.f2 ≤ 3) := by unfold wt; (repeat' split) <;> omega
    have hmn : mn e.f0 e.f1 < 0 ↔ ¬ (0 ≤ e.f0 ∧ 0 ≤ e.f1) := by unfold mn; split <;> omega
    have hmx : mx e.f0 e.f1 ≥ n ↔ ¬ (e.f0 < n ∧ e.f1 < n) := by unfold mx; split <;> omega
    by_cases h1 : mn e.f0 e.f1 < 0
    · have : okE n e = false := by unfold okE; rw [decide_eq_false_iff_not]; rw [hmn] at h1; omega
      rw [this]
      simp only [if_pos h1]
      exact Ev.now _
    · simp only [if_neg h1]
      by_cases h2 : mx e.f0 e.f1 ≥ n
      · have : okE n e = false := by unfold okE; rw [decide_eq_false_iff_not]; rw [hmx] at h2; omega
        rw [this]
        simp only [if_pos h2]
        exact Ev.now _
      · simp only [if_neg h2]
        by_cases h3 : wt e.f2 = 9
        · have : okE n e = false := by unfold okE; rw [decide_eq_false_iff_not]; rw [hw] at h3; omega
          rw [this]
          simp only [if_pos h3]
          exact Ev.now _
        · have : okE n e = true := by unfold okE; rw [decide_eq_true_eq]; rw [hmn] at h1; rw [hmx] at h2; rw [hw] at h3; omega
          rw [this]
          simp only [if_neg h3, Bool.true_and]
          exact ih (i + 1) (by omega) (by omega)
theorem valid_ev (n : Int) (es : List S41) (rs : List Int) (he : es.length ≤ 9223372036854775807) (hr : rs.length ≤ 9223372036854775807) : Ev (fun k => weigh_valid.f k n es rs) (okG n es rs) := by
  unfold weigh_valid.f okG
  by_cases h1 : n < 0
  · have : decide (0 ≤ n ∧ n ≤ 1048576) = false := by rw [decide_eq_false_iff_not]; omega
    rw [this]
    simp only [if_pos h1]
    exact Ev.step (f := fun _ => some false) (fun k => by simp [weigh_valid.j0]) (Ev.now _)
  · simp only [if_neg h1]
    by_cases h2 : n > 1048576
    · have : decide (0 ≤ n ∧ n ≤ 1048576) = false := by rw [decide_eq_false_iff_not]; omega
      rw [this]
      exact Ev.step (f := fun _ => some false) (fun k => by simp [weigh_valid.j0, h2]) (Ev.now _)
    · have : decide (0 ≤ n ∧ n ≤ 1048576) = true := by rw [decide_eq_true_eq]; omega
      rw [this]
      refine Ev.step (f := fun k => weigh_valid.l0 k n rs es (es.length : Int) 0) (fun k => by simp only [weigh_valid.j0]; rw [if_neg (by simp; omega)]) ?_
      simpa using valid_l0 n es rs he hr es.length 0 (by omega) (by omega)

/-- The weights. -/
def weights (n : Nat) (es : List S41) (rs : List Int) : Option (List Int) := run (es.foldl intoStep (List.replicate n [])) (22 * n + 2) (rs.foldl startStep (List.replicate n 9, [])).1 (rs.foldl startStep (List.replicate n 9, [])).2
def weigh_From.f (n : Int) (es : List S41) (rs : List Int) : Option (List Int × Int) :=
  if es.length < 5864062014805 then (if okG n es rs = true then (weights n.toNat es rs).map fun b => (b, 0) else some ([], 1)) else none

theorem okG_spec {n : Int} {es : List S41} {rs : List Int} (h : okG n es rs = true) : (0 ≤ n ∧ n ≤ 1048576) ∧ (∀ e ∈ es, 0 ≤ e.f0 ∧ e.f0 < n ∧ 0 ≤ e.f1 ∧ e.f1 < n ∧ -1 ≤ e.f2 ∧ e.f2 ≤ 3) ∧ ∀ r ∈ rs, 0 ≤ r ∧ r < n := by
  unfold okG at h
  rw [Bool.and_eq_true, Bool.and_eq_true, decide_eq_true_eq, List.all_eq_true, List.all_eq_true] at h
  exact ⟨h.1.1, fun e he => by have := h.1.2 e he; unfold okE at this; rwa [decide_eq_true_eq] at this, fun r hr => by have := h.2 r hr; unfold okR at this; rwa [decide_eq_true_eq] at this⟩

theorem run_len (I : List (List S41)) : ∀ (k : Nat) (b q r : List Int), run I k b q = some r → r.length = b.length := by
  intro k
  induction k with
  | zero => intro b q r h; simp [run] at h
  | succ k ih =>
    intro b q r h
    cases q with
    | nil => simp only [run, Option.some.injEq] at h; rw [h]
    | cons a q =>
      rw [run] at h
      rw [ih _ _ _ h, relax_len]

theorem weigh_From.calls (a0 : Int) (A1 : Option Addr) (c1 : Nat) (l1 : List S41) (A2 : Option Addr) (c2 : Nat) (l2 : List Int) (r1 : List Int) (r2 : Int) (w : World) (hr1 : Kd.C k41 w A1 l1.length l1) (hc1 : l1.length ≤ c1) (hr2 : Kd.C (Kd.int .i64) w A2 l2.length l2) (hc2 : l2.length ≤ c2) (h : weigh_From.f a0 l1 l2 = some (r1, r2)) :
    Calls Try.prog 15 #[.int .i64 a0, .slice A1 l1.length c1, .slice A2 l2.length c2] w fun e w' => ∃ v0_ : Value, e = .returned (.tuple #[v0_, .int .i64 r2]) ∧ Kd.R (Kd.int .i64) 3 w' w.heap.size (fun _ => True) v0_ r1 ∧ Below w.heap.size w w' := by
  obtain ⟨k, hv⟩ := (valid_ev a0 l1 l2 (Kd.C_max hr1) (Kd.C_max hr2)).rounds
  unfold weigh_From.f at h
  by_cases hl : l1.length < 5864062014805
  · rw [if_pos hl] at h
    by_cases hok : okG a0 l1 l2 = true
    · rw [if_pos hok] at h
      rw [hok] at hv
      obtain ⟨b, hb, he⟩ := Option.map_eq_some_iff.1 h
      injection he with h1 h2
      subst h1; subst h2
      obtain ⟨hn, hE, hR⟩ := okG_spec hok
      obtain ⟨n, rfl⟩ := Int.eq_ofNat_of_zero_le hn.1
      have hbl : b.length = n := by
        unfold weights at hb
        rw [run_len _ _ _ _ _ hb, start_len]
        simp
      refine (from_good k _ n A1 c1 l1 A2 c2 l2 b w (by omega) hl hr1 hc1 hr2 hc2 hv (fun e he => ⟨(hE e he).1, (hE e he).2.1, (hE e he).2.2.1, (hE e he).2.2.2.1⟩) hR (by simpa [weights] using hb)).mono ?_
      rintro e w' ⟨g, rfl, hg, hrow, hbel⟩
      refine ⟨_, rfl, ?_, hbel⟩
      refine Kd.R_of_own ?_ (fun _ _ => trivial)
      refine ⟨by simp [encs], .inr ⟨g, n, (nums .i64 b).toArray, by rw [hbl], hg, hrow, by omega, by unfold maxLen; omega, by simp [nums, hbl], ?_⟩⟩
      have e1 : (nums .i64 b).length = b.length * 1 := by simp [nums]
      show (nums .i64 b).take _ = _
      rw [List.take_of_length_le (by omega)]
      rfl
    · rw [if_neg hok] at h
      injection h with h
      injection h with h1 h2
      subst h1; subst h2
      rw [Bool.not_eq_true] at hok
      rw [hok] at hv
      refine (from_bad k a0 A1 c1 l1 A2 c2 l2 w hr1 hc1 hr2 hc2 hv).mono ?_
      rintro e w' ⟨rfl, hbel⟩
      exact ⟨_, rfl, Kd.R_nil _ _ _ _ _, hbel⟩
  · rw [if_neg hl] at h
    cases h
end Go.Proofs.Ytmjdiiockddalaa.PW
