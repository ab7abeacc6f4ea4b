/- What the law WeighOrders needs, without the machine: lists with the same members give the same weights; more give none greater; roots together the Meet. -/
import Derived.Test.YtmjdiiockddalaaHRaises
import Derived.Test.YtmjdiiockddalaaHMeet
namespace Go.Proofs.Ytmjdiiockddalaa.PW
open Go.RowKit Go.Maps Go.Proofs.YtmjdiiockddalaaW.PrintWords Go.Proofs.YtmjdiiockddalaaW.PrintLast Go.Proofs.YtmjdiiockddalaaW.PrintMore
set_option linter.unusedVariables false
set_option linter.unusedSimpArgs false

def meet (a b : Int) : Int := mn (wt a) (wt b)
theorem weigh_Meet_f (a b : Int) : weigh_Meet.f a b = some (meet a b) := by
  unfold weigh_Meet.f meet
  rw [weigh_weight_f, weigh_weight_f]
  rfl
theorem Reach.more {es es' : List S41} {rs rs' : List Int} (hE : ∀ e ∈ es', e ∈ es) (hR : ∀ r ∈ rs', r ∈ rs) {i d : Int} (h : Reach es' rs' i d) : Reach es rs i d := by
  induction h with
  | root h => exact Reach.root (hR _ h)
  | edge h hd ih => exact Reach.edge (hE _ h) ih
theorem Good.more {n : Nat} {es es' : List S41} {rs rs' : List Int} (hg : Good n es rs) (hE : ∀ e ∈ es', e ∈ es) (hR : ∀ r ∈ rs', r ∈ rs) : Good n es' rs' := ⟨fun e he => hg.1 e (hE e he), fun r hr => hg.2 r (hR r hr)⟩
theorem orders_same {n : Nat} {E es : List S41} {R rs b : List Int} (hn : n ≤ 40) (hg : Good n E R) (hs : Sol n E R b) (hl : es.length < 5864062014805) (hE : ∀ e, e ∈ es ↔ e ∈ E) (hR : ∀ r, r ∈ rs ↔ r ∈ R) : weigh_From.f n es rs = some (b, 0) := by
  have g2 : Good n es rs := hg.more (fun e he => (hE e).1 he) (fun r hr => (hR r).1 hr)
  obtain ⟨c, hf, hc⟩ := from_good_f (n := n) (by omega) hl g2
  have h1 : ∀ i : Int, 0 ≤ i → i < n → rd b i ≤ rd c i := hs.le hg hc (fun i d h => ⟨d, Int.le_refl _, h.more (fun e he => (hE e).1 he) (fun r hr => (hR r).1 hr)⟩)
  have h2 : ∀ i : Int, 0 ≤ i → i < n → rd c i ≤ rd b i := hc.le g2 hs (fun i d h => ⟨d, Int.le_refl _, h.more (fun e he => (hE e).2 he) (fun r hr => (hR r).2 hr)⟩)
  have : c = b := rd_ext (by rw [hc.len, hs.len]) (fun i h0 h3 => Int.le_antisymm (h2 i h0 (by have := hc.len; omega)) (h1 i h0 (by have := hc.len; omega)))
  rw [hf, this]
theorem orders_more {n : Nat} {E mE es : List S41} {R mR rs b : List Int} (hn : n ≤ 40) (hg : Good n E R) (hm : Good n mE mR) (hs : Sol n E R b) (hl : es.length < 5864062014805) (hE : ∀ e, e ∈ es ↔ e ∈ E ∨ e ∈ mE) (hR : ∀ r, r ∈ rs ↔ r ∈ R) : ∃ z, weigh_From.f n es rs = some (z, 0) ∧ z.length = n ∧ ∀ i : Int, 0 ≤ i → i < n → rd z i ≤ rd b i := by
  have g2 : Good n es rs := ⟨fun e he => by
    rcases (hE e).1 he with h | h
    · exact hg.1 e h
    · exact hm.1 e h, fun r hr => hg.2 r ((hR r).1 hr)⟩
  obtain ⟨c, hf, hc⟩ := from_good_f (n := n) (by omega) hl g2
  exact ⟨c, hf, hc.len, hc.le g2 hs (fun i d h => ⟨d, Int.le_refl _, h.more (fun e he => (hE e).2 (.inl he)) (fun r hr => (hR r).2 hr)⟩)⟩
theorem orders_roots {n : Nat} {E : List S41} {R mR rs b c : List Int} {mE : List S41} (hn : n ≤ 40) (hg : Good n E R) (hm : Good n mE mR) (hs : Sol n E R b) (hc : Sol n E mR c) (hl : E.length < 5864062014805) (hR : ∀ r, r ∈ rs ↔ r ∈ R ∨ r ∈ mR) : ∃ u, weigh_From.f n E rs = some (u, 0) ∧ u.length = n ∧ ∀ i : Int, 0 ≤ i → i < n → rd u i = meet (rd b i) (rd c i) := by
  have gm : Good n E mR := ⟨hg.1, hm.2⟩
  have g2 : Good n E rs := ⟨hg.1, fun r hr => by
    rcases (hR r).1 hr with h | h
    · exact hg.2 r h
    · exact hm.2 r h⟩
  obtain ⟨u, hf, hu⟩ := from_good_f (n := n) (by omega) hl g2
  have h1 : ∀ i : Int, 0 ≤ i → i < n → rd u i ≤ rd b i := hu.le g2 hs (fun i d h => ⟨d, Int.le_refl _, h.more (fun e he => he) (fun r hr => (hR r).2 (.inl hr))⟩)
  have h2 : ∀ i : Int, 0 ≤ i → i < n → rd u i ≤ rd c i := hu.le g2 hc (fun i d h => ⟨d, Int.le_refl _, h.more (fun e he => he) (fun r hr => (hR r).2 (.inr hr))⟩)
  have split : ∀ (i d : Int), Reach E rs i d → Reach E R i d ∨ Reach E mR i d := fun i d h => by
    induction h with
    | root h =>
      rcases (hR _).1 h with h | h
      · exact .inl (Reach.root h)
      · exact .inr (Reach.root h)
    | edge h hd ih =>
      rcases ih with ih | ih
      · exact .inl (Reach.edge h ih)
      · exact .inr (Reach.edge h ih)
  refine ⟨u, hf, hu.len, fun i h0 hi => ?_⟩
  have r1 := hs.range hg i h0 hi
  have r2 := hc.range gm i h0 hi
  have r3 := hu.range g2 i h0 hi
  have a1 := h1 i h0 hi
  have a2 := h2 i h0 hi
  have w1 : wt (rd b i) = rd b i := by rcases r1.2 with h | h
                                       · exact wt_eq r1.1 h
                                       · rw [h]; rfl
  have w2 : wt (rd c i) = rd c i := by rcases r2.2 with h | h
                                       · exact wt_eq r2.1 h
                                       · rw [h]; rfl
  have a3 : rd b i ≤ rd u i ∨ rd c i ≤ rd u i := by
    rcases hu.way i h0 hi with h | h
    · left; rcases r1.2 with q | q <;> omega
    · rcases split i _ h with h | h
      · exact .inl (hs.least hg h)
      · exact .inr (hc.least gm h)
  unfold meet
  rw [w1, w2]
  unfold mn
  split <;> omega
end Go.Proofs.Ytmjdiiockddalaa.PW
