/- The law WeighLeast answers true for every graph. Conditions: sizes that every machine keeps. -/
import Derived.Test.YtmjdiiockddalaaHLeastW
import Derived.Test.YtmjdiiockddalaaHArgs
namespace Go.Proofs.Ytmjdiiockddalaa.PW
open Go.RowKit Go.Maps Go.Proofs.YtmjdiiockddalaaW.PrintWords Go.Proofs.YtmjdiiockddalaaW.PrintLast Go.Proofs.YtmjdiiockddalaaW.PrintMore
set_option linter.unusedVariables false
set_option linter.unusedSimpArgs false

theorem least_l1 (n : Nat) (hn : n ≤ 40) (E : List S41) (R b : List Int) (hE : E.length < 5864062014805) (hg : Good n E R) (hs : Sol n E R b) :
    ∀ (d i : Nat), E.length - i = d → i ≤ E.length → Ev (fun k => fuguelaw06_WeighLeast.l1 k b (i : Int) n E R) true := by
  intro d
  induction d with
  | zero =>
    intro i hd hi
    exact Ev.step (f := fun k => some true) (fun k => by simp only [fuguelaw06_WeighLeast.l1]; rw [if_neg (by omega), tight_f (by omega) hE hg hs]; rfl) (Ev.now _)
  | succ d ih =>
    intro i hd hi
    have hx : i < E.length := by omega
    have h1 := hg.1 E[i] (List.getElem_mem _)
    have h2 := hs.edge E[i] (List.getElem_mem _)
    have hb := hs.len
    refine Ev.step (f := fun k => fuguelaw06_WeighLeast.l1 k b ((i + 1 : Nat) : Int) n E R) (fun k => by
      simp only [fuguelaw06_WeighLeast.l1]
      rw [if_pos (by omega), if_pos (by omega), rd41_get E i hx, if_pos (by omega), if_pos (by omega), if_pos (by omega), if_pos (by omega), weigh_Plus_f, Option.bind_some, if_neg (by omega), wrap_in (by omega) (by omega)]
      rfl) ?_
    exact ih (i + 1) (by omega) (by omega)
theorem least_l0 (n : Nat) (hn : n ≤ 40) (E : List S41) (R b : List Int) (hE : E.length < 5864062014805) (hR : R.length < 17592186044416) (hg : Good n E R) (hs : Sol n E R b) :
    ∀ (d i : Nat), R.length - i = d → i ≤ R.length → Ev (fun k => fuguelaw06_WeighLeast.l0 k b (i : Int) n E R) true := by
  intro d
  induction d with
  | zero =>
    intro i hd hi
    refine Ev.step (f := fun k => fuguelaw06_WeighLeast.l1 k b ((0 : Nat) : Int) n E R) (fun k => by simp only [fuguelaw06_WeighLeast.l0]; rw [if_neg (by omega)]; rfl) ?_
    exact least_l1 n hn E R b hE hg hs E.length 0 rfl (by omega)
  | succ d ih =>
    intro i hd hi
    have hx : i < R.length := by omega
    have h1 := hg.2 R[i] (List.getElem_mem _)
    have h2 := hs.root R[i] (List.getElem_mem _)
    have hb := hs.len
    refine Ev.step (f := fun k => fuguelaw06_WeighLeast.l0 k b ((i + 1 : Nat) : Int) n E R) (fun k => by
      simp only [fuguelaw06_WeighLeast.l0]
      rw [if_pos (by omega), if_pos (by omega), rd_get R i hx, if_pos (by omega), if_pos (by omega), if_neg (by omega), wrap_in (by omega) (by omega)]
      rfl) ?_
    exact ih (i + 1) (by omega) (by omega)
theorem least_pure (a : Int) (es : List S41) (rs : List Int) (he : es.length < 5864062014805) (hr : rs.length < 17592186044416) : ∃ k, fuguelaw06_WeighLeast.f k a es rs = some true := by
  obtain ⟨n, E, R, b, hn1, hn2, hna, hE, hR, hg, hev, hf, hs⟩ := right_all a es rs he hr
  refine Ev.rounds ?_
  unfold fuguelaw06_WeighLeast.f
  refine Ev.bind fixed_ev ?_
  refine Ev.bind hev ?_
  simp only [hf, Option.bind_some, if_true]
  have hb := hs.len
  have e1 : ((b.length : Int) != (n : Int)) = false := by rw [hb]; simp
  rw [e1]
  refine Ev.step (f := fun k => fuguelaw06_WeighLeast.l0 k b ((0 : Nat) : Int) n E R) (fun k => by simp only [fuguelaw06_WeighLeast.j0]; rw [if_neg (by decide)]; rfl) ?_
  exact least_l0 n hn2 E R b (by omega) (by omega) hg hs R.length 0 rfl (by omega)
theorem least_walk {x : S31} (hx : Ok31 x) (W : World) {A1 c1 A2 c2} (l1 : x.f1.length ≤ c1) (g1 : k41.C W A1 x.f1.length x.f1) (l2 : x.f2.length ≤ c2) (g2 : (Kd.int .i64).C W A2 x.f2.length x.f2) :
    Calls Try.prog 5 #[.agg #[.int .i64 x.f0, .slice A1 x.f1.length c1, .slice A2 x.f2.length c2]] W fun e w' => e = .returned (.bool true) ∧ Below W.heap.size W w' := by
  have hb := graph_bounds hx
  obtain ⟨k, hk⟩ := least_pure x.f0 x.f1 x.f2 hb.1 hb.2
  exact fuguelaw06_WeighLeast.calls k x.f0 A1 c1 x.f1 A2 c2 x.f2 true W g1 l1 g2 l2 hk
end Go.Proofs.Ytmjdiiockddalaa.PW
