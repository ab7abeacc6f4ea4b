/- The law WeighRaises answers true for every graph and every two numbers. Conditions: sizes that every machine keeps. -/
import Derived.Test.YtmjdiiockddalaaPWx5
import Derived.Test.YtmjdiiockddalaaHFix
import Derived.Test.YtmjdiiockddalaaHArgs
namespace Go.Proofs.Ytmjdiiockddalaa.PW
open Go.RowKit Go.Maps Go.Proofs.YtmjdiiockddalaaW.PrintWords Go.Proofs.YtmjdiiockddalaaW.PrintLast Go.Proofs.YtmjdiiockddalaaW.PrintMore
set_option linter.unusedVariables false
set_option linter.unusedSimpArgs false

theorem plus_mono_both {d d' x x' : Int} (h : d' ≤ d) (hx : x' ≤ x) (h1 : -1 ≤ d') (h2 : d ≤ 3) (h3 : -1 ≤ x') (h4 : x ≤ 3) : plus d' x' ≤ plus d x := by
  rw [plus_eq h1 (by omega) h3 (by omega), plus_eq (by omega) h2 (by omega) h4]
  unfold mn mx; (repeat' split) <;> omega
/-- A graph of which each edge and root has one in another graph that says no more. -/
theorem Reach.sub {n : Nat} {es es' : List S41} {rs rs' : List Int} (hg : Good n es rs) (hg' : Good n es' rs') (hE : ∀ e ∈ es', ∃ e2 ∈ es, e2.f0 = e.f0 ∧ e2.f1 = e.f1 ∧ e2.f2 ≤ e.f2) (hR : ∀ r ∈ rs', r ∈ rs) {i d : Int} (h : Reach es' rs' i d) : ∃ d', d' ≤ d ∧ Reach es rs i d' := by
  induction h with
  | root h => exact ⟨0, Int.le_refl _, Reach.root (hR _ h)⟩
  | @edge e d h hd ih =>
    obtain ⟨d', hle, hr⟩ := ih
    obtain ⟨e2, h2, h3, h4, h5⟩ := hE e h
    have g1 := hg'.1 e h
    have g2 := hg.1 e2 h2
    have r1 := hd.range hg'
    have r2 := hr.range hg
    refine ⟨plus d' e2.f2, plus_mono_both hle h5 r2.1 r1.2.1 g2.2.2.2.2.1 g1.2.2.2.2.2, ?_⟩
    rw [← h4]
    exact Reach.edge h2 (by rw [h3]; exact hr)
/-- Where the ends alone are alike: reached the same. -/
theorem Reach.ends {es es' : List S41} {rs rs' : List Int} (hE : ∀ e ∈ es', ∃ e2 ∈ es, e2.f0 = e.f0 ∧ e2.f1 = e.f1) (hR : ∀ r ∈ rs', r ∈ rs) {i d : Int} (h : Reach es' rs' i d) : ∃ d', Reach es rs i d' := by
  induction h with
  | root h => exact ⟨0, Reach.root (hR _ h)⟩
  | @edge e d h hd ih =>
    obtain ⟨d', hr⟩ := ih
    obtain ⟨e2, h2, h3, h4⟩ := hE e h
    exact ⟨plus d' e2.f2, by rw [← h4]; exact Reach.edge h2 (by rw [h3]; exact hr)⟩
theorem copy_l0 (es : List S41) (he : es.length < 5864062014805) : ∀ (d i : Nat) (acc : List S41), es.length - i = d → i ≤ es.length → acc.length = i → Ev (fun k => fugueref00_CopyEdges.l0 k es acc (i : Int)) (acc ++ es.drop i) := by
  intro d
  induction d with
  | zero =>
    intro i acc hd hi ha
    refine Ev.step (f := fun k => some acc) (fun k => by simp only [fugueref00_CopyEdges.l0]; rw [if_neg (by omega)]) ?_
    rw [List.drop_eq_nil_of_le (by omega), List.append_nil]
    exact Ev.now _
  | succ d ih =>
    intro i acc hd hi ha
    have hx : i < es.length := by omega
    refine Ev.step (f := fun k => fugueref00_CopyEdges.l0 k es (acc ++ [es[i]]) ((i + 1 : Nat) : Int)) (fun k => by
      simp only [fugueref00_CopyEdges.l0]
      rw [if_pos (by omega), if_pos (by omega), if_pos (by omega), rd41_get es i hx, wrap_in (by omega) (by omega)]
      rfl) ?_
    have := ih (i + 1) (acc ++ [es[i]]) (by omega) (by omega) (by simp [ha])
    rw [List.drop_eq_getElem_cons hx]
    simpa using this
theorem copy_ev (es : List S41) (he : es.length < 5864062014805) : Ev (fun k => fugueref00_CopyEdges.f k es) es := by
  have := copy_l0 es he es.length 0 [] (by omega) (by omega) rfl
  unfold fugueref00_CopyEdges.f
  simpa using this
theorem raises_l1 (n : Nat) (hn : n ≤ 40) (x y z : List Int) (hx : x.length = n) (hy : y.length = n) (hz : z.length = n) (hxy : ∀ i : Int, 0 ≤ i → i < n → rd x i ≤ rd y i) (hyz : ∀ i : Int, 0 ≤ i → i < n → rd y i ≤ rd z i) (h9 : ∀ i : Int, 0 ≤ i → i < n → (rd x i = 9 ↔ rd y i = 9)) :
    ∀ (d i : Nat), n - i = d → i ≤ n → Ev (fun k => fuguelaw06_WeighRaises.l1 k x y z (i : Int)) true := by
  intro d
  induction d with
  | zero =>
    intro i hd hi
    exact Ev.step (f := fun k => some true) (fun k => by simp only [fuguelaw06_WeighRaises.l1]; rw [if_neg (by omega)]) (Ev.now _)
  | succ d ih =>
    intro i hd hi
    have a1 := hxy (i : Int) (by omega) (by omega)
    have a2 := hyz (i : Int) (by omega) (by omega)
    have a3 := h9 (i : Int) (by omega) (by omega)
    have a4 : (((rd x (i : Int)) == 9) != ((rd y (i : Int)) == 9)) = false := by
      by_cases h : rd x (i : Int) = 9
      · rw [beq_iff_eq.2 h, beq_iff_eq.2 (a3.1 h)]; rfl
      · rw [beq_eq_false_iff_ne.2 h, beq_eq_false_iff_ne.2 (fun h2 => h (a3.2 h2))]; rfl
    refine Ev.step (f := fun k => fuguelaw06_WeighRaises.l1 k x y z ((i + 1 : Nat) : Int)) (fun k => by
      simp only [fuguelaw06_WeighRaises.l1]
      rw [if_pos (by omega), if_pos (by omega), if_pos (by omega), if_neg (by omega), if_pos (by omega), if_neg (by omega), a4, if_neg (by decide), wrap_in (by omega) (by omega)]
      rfl) ?_
    exact ih (i + 1) (by omega) (by omega)
theorem raises_pure (a : Int) (es : List S41) (rs : List Int) (at_ by_ : Int) (he : es.length < 5864062014805) (hr : rs.length < 17592186044416) : ∃ k, fuguelaw06_WeighRaises.f k a es rs at_ by_ = some true := by
  obtain ⟨n, E, R, b, hn1, hn2, hna, hE, hR, hg, hev, hf, hs⟩ := right_all a es rs he hr
  refine Ev.rounds ?_
  unfold fuguelaw06_WeighRaises.f
  refine Ev.bind fixed_ev ?_
  refine Ev.bind hev ?_
  simp only [hf, Option.bind_some, if_true]
  have hb := hs.len
  have e1 : ((b.length : Int) != (n : Int)) = false := by rw [hb]; simp
  rw [e1]
  by_cases hE0 : E.length = 0
  · exact Ev.step (f := fun k => some true) (fun k => by simp only [fuguelaw06_WeighRaises.j0]; rw [if_neg (by decide), if_pos (by omega)]) (Ev.now _)
  · have h3 := Int.emod_nonneg at_ (show (E.length : Int) ≠ 0 by omega)
    have h4 := Int.emod_lt_of_pos at_ (show (0 : Int) < E.length by omega)
    obtain ⟨t, ht⟩ := Int.eq_ofNat_of_zero_le h3
    have htl : t < E.length := by omega
    have hge := hg.1 E[t] (List.getElem_mem _)
    have h5 := Int.emod_nonneg by_ (show (4 - E[t].f2 : Int) ≠ 0 by omega)
    have h6 := Int.emod_lt_of_pos by_ (show (0 : Int) < 4 - E[t].f2 by omega)
    obtain ⟨u, hu⟩ : ∃ u, u = by_ % (4 - E[t].f2) := ⟨_, rfl⟩
    rw [← hu] at h5 h6
    obtain ⟨e2, he2⟩ : ∃ e2 : S41, e2 = ⟨E[t].f0, E[t].f1, E[t].f2 + u⟩ := ⟨_, rfl⟩
    have e20 : e2.f0 = E[t].f0 := by rw [he2]
    have e21 : e2.f1 = E[t].f1 := by rw [he2]
    have e22 : e2.f2 = E[t].f2 + u := by rw [he2]
    -- the edges of the second graph
    have m2 : ∀ e ∈ E.set t e2, e = e2 ∨ e ∈ E := fun e he => (List.mem_or_eq_of_mem_set he).symm
    have g2 : Good n (E.set t e2) R := ⟨fun e he => by
      rcases m2 e he with rfl | he
      · omega
      · exact hg.1 e he, hg.2⟩
    obtain ⟨y, hfy, hsy⟩ := from_good_f (n := n) (by omega) (by rw [List.length_set]; omega) g2
    have hxy : ∀ i : Int, 0 ≤ i → i < n → rd b i ≤ rd y i := fun i h0 h1 => hs.le hg hsy (fun i d hrd => Reach.sub hg g2 (fun e he => by
      rcases m2 e he with rfl | he
      · exact ⟨E[t], List.getElem_mem _, e20.symm, e21.symm, by omega⟩
      · exact ⟨e, he, rfl, rfl, Int.le_refl _⟩) (fun r hr => hr) hrd) i h0 h1
    have h9 : ∀ i : Int, 0 ≤ i → i < n → (rd b i = 9 ↔ rd y i = 9) := fun i h0 h1 => by
      have q1 := hxy i h0 h1
      have q2 := hsy.range g2 i h0 h1
      refine ⟨fun h => by omega, fun h => ?_⟩
      rcases hs.way i h0 h1 with w | w
      · exact w
      · obtain ⟨d', hd'⟩ := Reach.ends (es := E.set t e2) (rs := R) (fun e he => by
          obtain ⟨j, hj, rfl⟩ := List.getElem_of_mem he
          by_cases hjt : t = j
          · subst hjt
            exact ⟨e2, List.mem_set htl _, e20, e21⟩
          · refine ⟨E[j], ?_, rfl, rfl⟩
            have : (E.set t e2)[j]'(by rw [List.length_set]; exact hj) = E[j] := List.getElem_set_ne hjt _
            rw [← this]
            exact List.getElem_mem _) (fun r hr => hr) w
        have l1 := hsy.least g2 hd'
        have l2 := hd'.range g2
        omega
    -- the third graph: any part of the second
    have loop : ∀ (q j : Nat) (acc : List S41), E.length - j = q → j ≤ E.length → acc.length ≤ j → (∀ e ∈ acc, e ∈ E.set t e2) → Ev (fun k => fuguelaw06_WeighRaises.l0 k b 0 (t : Int) y acc (j : Int) n E R) true := by
      intro q
      induction q with
      | zero =>
        intro j acc hq hj hl ha
        have g3 : Good n acc R := ⟨fun e he => g2.1 e (ha e he), hg.2⟩
        obtain ⟨z, hfz, hsz⟩ := from_good_f (n := n) (by omega) (by omega) g3
        have hyz : ∀ i : Int, 0 ≤ i → i < n → rd y i ≤ rd z i := fun i h0 h1 => hsy.le g2 hsz (fun i d hrd => Reach.sub g2 g3 (fun e he => ⟨e, ha e he, rfl, rfl, Int.le_refl _⟩) (fun r hr => hr) hrd) i h0 h1
        have b2 := hsy.len
        have b3 := hsz.len
        have e2_ : ((z.length : Int) != (b.length : Int)) = false := by rw [b3, hb]; simp
        refine Ev.step (f := fun k => fuguelaw06_WeighRaises.j2 k b y z false) (fun k => by
          simp only [fuguelaw06_WeighRaises.l0]
          rw [if_neg (by omega), hfz, Option.bind_some, if_pos trivial]
          simp only
          rw [if_pos trivial, if_pos (by omega), e2_]) ?_
        refine Ev.step (f := fun k => fuguelaw06_WeighRaises.l1 k b y z ((0 : Nat) : Int)) (fun k => by
          simp only [fuguelaw06_WeighRaises.j2]
          rw [if_neg (by decide)]
          rfl) ?_
        exact raises_l1 n hn2 b y z hb b2 b3 hxy hyz h9 n 0 rfl (by omega)
      | succ q ihq =>
        intro j acc hq hj hl ha
        have hx : j < E.length := by omega
        by_cases hjt : j = t
        · refine Ev.step (f := fun k => fuguelaw06_WeighRaises.l0 k b 0 (t : Int) y acc ((j + 1 : Nat) : Int) n E R) (fun k => by
            simp only [fuguelaw06_WeighRaises.l0]
            rw [if_pos (by omega), if_pos (by omega), wrap_in (by omega) (by omega)]
            rfl) ?_
          exact ihq (j + 1) acc (by omega) (by omega) (by omega) ha
        · refine Ev.step (f := fun k => fuguelaw06_WeighRaises.l0 k b 0 (t : Int) y (acc ++ [E[j]]) ((j + 1 : Nat) : Int) n E R) (fun k => by
            simp only [fuguelaw06_WeighRaises.l0]
            rw [if_pos (by omega), if_neg (by omega), if_pos (by omega), if_pos (by omega), rd41_get E j hx, wrap_in (by omega) (by omega)]
            rfl) ?_
          refine ihq (j + 1) _ (by omega) (by omega) (by simp; omega) (fun e he => ?_)
          rcases List.mem_append.1 he with he | he
          · exact ha e he
          · rw [List.mem_singleton] at he
            subst he
            have : (E.set t e2)[j]'(by rw [List.length_set]; exact hx) = E[j] := List.getElem_set_ne (by omega) _
            rw [← this]
            exact List.getElem_mem _
    refine Ev.step (f := fun k => (fugueref00_CopyEdges.f k E).bind fun t159 => if (t : Int) < (t159.length : Int) then ((fuguelaw06_mod.f by_ (wrap64 (4 - ((rd_T41 t159 t).f2)))).bind fun t164 => ((weigh_From.f n (t159.set t (⟨(rd_T41 t159 t).f0, (rd_T41 t159 t).f1, wrap64 (((rd_T41 t159 t).f2) + t164)⟩ : S41)) R).bind fun bt166 => (fuguelaw06_WeighRaises.l0 k b bt166.2 t bt166.1 ([] : List (S41)) 0 n E R))) else none) (fun k => by
      simp only [fuguelaw06_WeighRaises.j0]
      rw [if_neg (by decide), if_neg (by omega), mod_f _ _ (by omega) (by omega), Option.bind_some, ht]
      simp only [Int.toNat_natCast]
      congr 1) ?_
    refine Ev.bind (copy_ev E (by omega)) ?_
    refine Ev.congr (f := fun k => fuguelaw06_WeighRaises.l0 k b 0 (t : Int) y [] ((0 : Nat) : Int) n E R) (fun k => ?_) (loop E.length 0 [] (by omega) (by omega) (by simp) (by simp))
    rw [if_pos (by omega), rd41_get E t htl, wrap_in (by omega) (by omega), mod_f _ _ (by omega) (by omega), ← hu, Option.bind_some, wrap_in (by omega) (by omega), ← he2, hfy]
    rfl
theorem raises_walk {x : S31} {a1 a2 : Int} (hx : Ok31 x) (w1 : (Lit.int .i64 a1).wf = true) (w2 : (Lit.int .i64 a2).wf = true) (W : World) {A1 c1 A2 c2} (l1 : x.f1.length ≤ c1) (g1 : k41.C W A1 x.f1.length x.f1) (l2 : x.f2.length ≤ c2) (g2 : (Kd.int .i64).C W A2 x.f2.length x.f2) :
    Calls Try.prog 7 #[.agg #[.int .i64 x.f0, .slice A1 x.f1.length c1, .slice A2 x.f2.length c2], .int .i64 a1, .int .i64 a2] W fun e w' => e = .returned (.bool true) ∧ Below W.heap.size W w' := by
  have hb := graph_bounds hx
  obtain ⟨k, hk⟩ := raises_pure x.f0 x.f1 x.f2 a1 a2 hb.1 hb.2
  exact fuguelaw06_WeighRaises.calls k x.f0 A1 c1 x.f1 A2 c2 x.f2 a1 a2 true W g1 l1 g2 l2 hk
end Go.Proofs.Ytmjdiiockddalaa.PW
