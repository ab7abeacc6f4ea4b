/- The law WeighWays answers true for every graph and all picks. Conditions: sizes that every machine keeps. -/
import Derived.Test.YtmjdiiockddalaaPWx6
import Derived.Test.YtmjdiiockddalaaHFix
import Derived.Test.YtmjdiiockddalaaHArgs
namespace Go.Proofs.Ytmjdiiockddalaa.PW
open Go.RowKit Go.Maps Go.Proofs.YtmjdiiockddalaaW.PrintWords Go.Proofs.YtmjdiiockddalaaW.PrintLast Go.Proofs.YtmjdiiockddalaaW.PrintMore
set_option linter.unusedVariables false
set_option linter.unusedSimpArgs false

theorem rd_in {xs : List Int} {i : Int} (h0 : 0 ≤ i) (h1 : i < xs.length) : rd xs i ∈ xs := by
  obtain ⟨k, rfl⟩ := Int.eq_ofNat_of_zero_le h0
  rw [rd_get xs k (by omega)]
  exact List.getElem_mem _
theorem rd41_mem {xs : List S41} {i : Int} (h0 : 0 ≤ i) (h1 : i < xs.length) : rd_T41 xs i ∈ xs := by
  obtain ⟨k, rfl⟩ := Int.eq_ofNat_of_zero_le h0
  rw [rd41_get xs k (by omega)]
  exact List.getElem_mem _
theorem ways_loops (n : Nat) (hn : n ≤ 40) (E : List S41) (R b ps : List Int) (hE : E.length < 5864062014805) (hp : ps.length ≤ 9223372036854775807) (hg : Good n E R) (hs : Sol n E R b) :
    ∀ (m : Nat), (∀ (i : Nat) (at_ d : Int), ps.length - i = m → i ≤ ps.length → Reach E R at_ d → Ev (fun k => fuguelaw06_WeighWays.l0 k ps b at_ d (i : Int) n E R) true) := by
  intro m
  induction m with
  | zero =>
    intro i at_ d hm hi hr
    exact Ev.step (f := fun _ => some true) (fun k => by simp only [fuguelaw06_WeighWays.l0]; rw [if_neg (by omega)]) (Ev.now _)
  | succ m ih =>
    intro i at_ d hm hi hr
    refine Ev.step (f := fun k => fuguelaw06_WeighWays.l1 k ps b at_ d (i : Int) [] 0 n E R) (fun k => by simp only [fuguelaw06_WeighWays.l0]; rw [if_pos (by omega)]) ?_
    have inner : ∀ (q j : Nat) (acc : List S41), E.length - j = q → j ≤ E.length → acc.length ≤ j → (∀ e ∈ acc, e ∈ E ∧ e.f0 = at_) → Ev (fun k => fuguelaw06_WeighWays.l1 k ps b at_ d (i : Int) acc (j : Int) n E R) true := by
      intro q
      induction q with
      | zero =>
        intro j acc hq hj hl ha
        by_cases h0 : acc.length = 0
        · exact Ev.step (f := fun _ => some true) (fun k => by simp only [fuguelaw06_WeighWays.l1]; rw [if_neg (by omega), if_pos (by omega)]) (Ev.now _)
        · have h3 := Int.emod_nonneg ps[i] (show (acc.length : Int) ≠ 0 by omega)
          have h4 := Int.emod_lt_of_pos ps[i] (show (0 : Int) < acc.length by omega)
          obtain ⟨t, ht⟩ : ∃ t, t = ps[i] % (acc.length : Int) := ⟨_, rfl⟩
          rw [← ht] at h3 h4
          have hm1 := ha _ (rd41_mem h3 h4)
          obtain ⟨f, hf⟩ : ∃ f, f = rd_T41 acc t := ⟨_, rfl⟩
          rw [← hf] at hm1
          have hgf := hg.1 f hm1.1
          have hr2 : Reach E R f.f1 (plus d f.f2) := Reach.edge hm1.1 (by rw [hm1.2]; exact hr)
          have hle := hs.least hg hr2
          have hb := hs.len
          refine Ev.step (f := fun k => fuguelaw06_WeighWays.l0 k ps b f.f1 (plus d f.f2) ((i + 1 : Nat) : Int) n E R) (fun k => by
            simp only [fuguelaw06_WeighWays.l1]
            rw [if_neg (by omega), if_neg (by omega), if_pos (by omega), if_pos (by omega), rd_get ps i (by omega), mod_f _ _ (by omega) (by omega), Option.bind_some, ← ht, if_pos h3, if_pos h4, ← hf, weigh_Plus_f, Option.bind_some, if_pos (by omega), if_pos (by omega), if_neg (by omega), wrap_in (by omega) (by omega)]
            rfl) ?_
          exact ih (i + 1) _ _ (by omega) (by omega) hr2
      | succ q ihq =>
        intro j acc hq hj hl ha
        have hx : j < E.length := by omega
        by_cases h0 : E[j].f0 = at_
        · refine Ev.step (f := fun k => fuguelaw06_WeighWays.l1 k ps b at_ d (i : Int) (acc ++ [E[j]]) ((j + 1 : Nat) : Int) n E R) (fun k => by
            simp only [fuguelaw06_WeighWays.l1]
            rw [if_pos (by omega), if_pos (by omega), rd41_get E j hx, if_pos h0, if_pos (by omega), wrap_in (by omega) (by omega)]
            rfl) ?_
          refine ihq (j + 1) _ (by omega) (by omega) (by simp; omega) (fun e he => ?_)
          rcases List.mem_append.1 he with he | he
          · exact ha e he
          · rw [List.mem_singleton] at he
            subst he
            exact ⟨List.getElem_mem _, h0⟩
        · refine Ev.step (f := fun k => fuguelaw06_WeighWays.l1 k ps b at_ d (i : Int) acc ((j + 1 : Nat) : Int) n E R) (fun k => by
            simp only [fuguelaw06_WeighWays.l1]
            rw [if_pos (by omega), if_pos (by omega), rd41_get E j hx, if_neg h0, wrap_in (by omega) (by omega)]
            rfl) ?_
          exact ihq (j + 1) _ (by omega) (by omega) (by omega) ha
    exact inner E.length 0 [] (by omega) (by omega) (by simp) (by simp)
theorem ways_pure (a : Int) (es : List S41) (rs ps : List Int) (he : es.length < 5864062014805) (hr : rs.length < 17592186044416) (hp : ps.length < 17592186044416) : ∃ k, fuguelaw06_WeighWays.f k a es rs ps = some true := by
  obtain ⟨n, E, R, b, hn1, hn2, hna, hE, hR, hg, hev, hf, hs⟩ := right_all a es rs he hr
  refine Ev.rounds ?_
  unfold fuguelaw06_WeighWays.f
  refine Ev.bind fixed_ev ?_
  refine Ev.bind hev ?_
  simp only [hf, Option.bind_some, if_true]
  have hb := hs.len
  have e1 : ((b.length : Int) != (n : Int)) = false := by rw [hb]; simp
  rw [e1]
  by_cases hR0 : R.length = 0
  · refine Ev.step (f := fun k => fuguelaw06_WeighWays.j1 k ps b true n E R) (fun k => by
      simp only [fuguelaw06_WeighWays.j0]
      rw [if_neg (by decide), if_pos (by omega)]) ?_
    exact Ev.step (f := fun _ => some true) (fun k => by simp only [fuguelaw06_WeighWays.j1]; rw [if_pos trivial]) (Ev.now _)
  · refine Ev.step (f := fun k => fuguelaw06_WeighWays.j1 k ps b ((ps.length : Int) == 0) n E R) (fun k => by
      simp only [fuguelaw06_WeighWays.j0]
      rw [if_neg (by decide), if_neg (by omega)]) ?_
    by_cases hp0 : ps.length = 0
    · have e2 : ((ps.length : Int) == 0) = true := by rw [hp0]; rfl
      rw [e2]
      exact Ev.step (f := fun _ => some true) (fun k => by simp only [fuguelaw06_WeighWays.j1]; rw [if_pos trivial]) (Ev.now _)
    · have e2 : ((ps.length : Int) == 0) = false := by rw [beq_eq_false_iff_ne]; omega
      rw [e2]
      have h3 := Int.emod_nonneg (rd ps 0) (show (R.length : Int) ≠ 0 by omega)
      have h4 := Int.emod_lt_of_pos (rd ps 0) (show (0 : Int) < R.length by omega)
      obtain ⟨t, ht⟩ : ∃ t, t = rd ps 0 % (R.length : Int) := ⟨_, rfl⟩
      rw [← ht] at h3 h4
      have hm := rd_in h3 h4
      have hgr := hg.2 _ hm
      have hle := hs.root _ hm
      refine Ev.step (f := fun k => fuguelaw06_WeighWays.l0 k ps b (rd R t) 0 ((1 : Nat) : Int) n E R) (fun k => by
        simp only [fuguelaw06_WeighWays.j1]
        rw [if_neg (by decide), if_pos (by omega), mod_f _ _ (by omega) (by omega), Option.bind_some, ← ht, if_pos h3, if_pos h4, if_pos (by omega), if_pos (by omega), if_neg (by omega)]
        rfl) ?_
      exact ways_loops n hn2 E R b ps (by omega) (by omega) hg hs _ 1 _ _ rfl (by omega) (Reach.root hm)
theorem ways_walk {x : S31} {ps : List Int} (hx : Ok31 x) (hp : Ok29 ps) (W : World) {A1 c1 A2 c2 A3 c3} (l1 : x.f1.length ≤ c1) (g1 : k41.C W A1 x.f1.length x.f1) (l2 : x.f2.length ≤ c2) (g2 : (Kd.int .i64).C W A2 x.f2.length x.f2) (l3 : ps.length ≤ c3) (g3 : (Kd.int .i64).C W A3 ps.length ps) :
    Calls Try.prog 4 #[.agg #[.int .i64 x.f0, .slice A1 x.f1.length c1, .slice A2 x.f2.length c2], .slice A3 ps.length c3] W fun e w' => e = .returned (.bool true) ∧ Below W.heap.size W w' := by
  have hb := graph_bounds hx
  obtain ⟨k, hk⟩ := ways_pure x.f0 x.f1 x.f2 ps hb.1 hb.2 (ints_bounds hp)
  exact fuguelaw06_WeighWays.calls k x.f0 A1 c1 x.f1 A2 c2 x.f2 A3 c3 ps true W g1 l1 g2 l2 g3 l3 hk
end Go.Proofs.Ytmjdiiockddalaa.PW
