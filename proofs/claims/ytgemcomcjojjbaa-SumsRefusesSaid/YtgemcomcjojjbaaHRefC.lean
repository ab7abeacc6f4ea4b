/- What the law on refused summaries needs: copies, one number put in another's place, one number more, one list less. No conditions. -/
import Derived.Test.YtgemcomcjojjbaaPSx8
import Derived.Test.YtgemcomcjojjbaaHOrdC
namespace Go.Proofs.Ytgemcomcjojjbaa.PS
open Go.RowKit Go.Proofs.YtgemcomcjojjbaaW.PrintWords Go.Proofs.YtgemcomcjojjbaaW.PrintLast Go.Proofs.YtgemcomcjojjbaaW.PrintMore
set_option linter.unusedVariables false
set_option linter.unusedSimpArgs false

theorem copyints_ev (xs : List Int) (hl : xs.length < 17592186044416) : Ev (fun k => fugueref00_CopyInts.f k xs) xs := by
  have gen : ∀ (d i : Nat), xs.length - i = d → i ≤ xs.length → Ev (fun k => fugueref00_CopyInts.l0 k xs (xs.take i) (i : Int)) xs := by
    intro d
    induction d with
    | zero =>
      intro i hd hi
      refine Ev.step (f := fun _ => some (xs.take i)) (fun k => by rw [fugueref00_CopyInts.l0, if_neg (by omega)]) ?_
      rw [List.take_of_length_le (by omega)]
      exact Ev.now _
    | succ d ih =>
      intro i hd hi
      have hx : i < xs.length := by omega
      have hA : (i : Int) < xs.length := by omega
      have hB : (0 : Int) ≤ i := by omega
      have hC : (xs.take i).length < 17592186044416 := by rw [List.length_take]; omega
      have hw : Aside0 (wrap64 ((i : Int) + 1) = ((i + 1 : Nat) : Int)) := ⟨(wrap_in (x := (i : Int) + 1) (by omega) (by omega)).trans (by omega)⟩
      refine Ev.step (fun k => ?_) (ih (i + 1) (by omega) (by omega))
      rw [fugueref00_CopyInts.l0, if_pos hA, if_pos hB, if_pos hC, hw.out, rd_get xs i hx, List.take_succ_eq_append_getElem hx]
  exact gen xs.length 0 (by omega) (by omega)
theorem copylists_ev (xs : List (List Int)) (hl : xs.length < 5864062014805) (hr : ∀ r ∈ xs, r.length < 17592186044416) : Ev (fun k => fugueref00_CopyLists.f k xs) xs := by
  have gen : ∀ (d i : Nat), xs.length - i = d → i ≤ xs.length → Ev (fun k => fugueref00_CopyLists.l0 k xs (xs.take i) (i : Int)) xs := by
    intro d
    induction d with
    | zero =>
      intro i hd hi
      refine Ev.step (f := fun _ => some (xs.take i)) (fun k => by rw [fugueref00_CopyLists.l0, if_neg (by omega)]) ?_
      rw [List.take_of_length_le (by omega)]
      exact Ev.now _
    | succ d ih =>
      intro i hd hi
      have hx : i < xs.length := by omega
      have hA : (i : Int) < xs.length := by omega
      have hB : (0 : Int) ≤ i := by omega
      have hC : (xs.take i).length < 5864062014805 := by rw [List.length_take]; omega
      have hw : Aside0 (wrap64 ((i : Int) + 1) = ((i + 1 : Nat) : Int)) := ⟨(wrap_in (x := (i : Int) + 1) (by omega) (by omega)).trans (by omega)⟩
      refine Ev.step (f := fun k => (fugueref00_CopyInts.f k xs[i]).bind fun t => fugueref00_CopyLists.l0 k xs (xs.take i ++ [t]) ((i + 1 : Nat) : Int)) (fun k => ?_) ?_
      · rw [fugueref00_CopyLists.l0, if_pos hA, if_pos hB, hw.out, rdL_get xs i hx]
        simp only [if_pos hC]
      · refine Ev.bind (copyints_ev xs[i] (hr _ (List.getElem_mem hx))) ?_
        rw [← List.take_succ_eq_append_getElem hx]
        exact ih (i + 1) (by omega) (by omega)
  exact gen xs.length 0 (by omega) (by omega)
theorem copysum_ok {P R : Int} {S : S31} (rS : rightS P R S = true) (hs : shapeS P R = true) : ∃ k, fugueref00_CopySummary.f k S.f0 S.f1 = some (S.f0, S.f1) := by
  obtain ⟨h1, h2, h3, h4⟩ := right_lens rS hs
  refine Ev.rounds (g := fun k => fugueref00_CopySummary.f k S.f0 S.f1) ?_
  unfold fugueref00_CopySummary.f
  refine Ev.bind (copyints_ev S.f0 (by omega)) ?_
  refine Ev.bind (copylists_ev S.f1 (by omega) (fun r hr => by obtain ⟨q, hq, e⟩ := List.getElem_of_mem hr; rw [← e]; have := h4 q hq; omega)) ?_
  exact Ev.now _
/-- Rows of one's own, no two of one block: the headers' row gS, the rows told apart by f. -/
structure RowsAt (ok : Nat → Prop) (w : World) (b gS n c : Nat) (inner : List Value) (f : Nat → Nat) (xs : List (List Int)) : Prop where
  own : w.ownsRow b 22 1 (.slice (some ⟨gS, 0, none⟩) n c) n inner
  len : xs.length = n
  rows : ∀ (j : Nat) (x : List Int), xs[j]? = some x → ∃ v, inner[j]? = some v ∧ kI.R 3 w b (fun k => (k ≠ gS ∧ ok k) ∧ f k = j) v x
theorem rows_of_S {w : World} {b n c : Nat} {ok : Nat → Prop} {A : Option Addr} {xs : List (List Int)} (h : Kd.S kL 22 w b ok (.slice A n c) xs) (hn : 0 < xs.length) : ∃ gS inner f, A = some ⟨gS, 0, none⟩ ∧ RowsAt ok w b gS n c inner f xs := by
  obtain ⟨f, h0, inner, ho, hr⟩ := h
  rw [List.length_zipIdx] at ho
  have hnn : n = xs.length := by
    rcases ho.2 with ⟨he, hz⟩ | ⟨g, cap, cur, he, _⟩
    · omega
    · injection he
  subst hnn
  obtain ⟨g, cap, he, _, _⟩ := ho.form hn
  injection he with e1 e2 e3
  subst e1
  subst e3
  refine ⟨g, inner, f, rfl, ho, rfl, fun j x hj => ?_⟩
  have hjl := (List.getElem?_eq_some_iff.1 hj).1
  obtain ⟨v, hv, hR⟩ := hr.2 j (x, j) (Kd.zip_at hj)
  have hil : j < inner.length := by have := hr.1; rw [List.length_zipIdx] at this; have hz : (Kd.tag f kL).sz = 1 := rfl; rw [hz] at this; omega
  have hz : (Kd.tag f kL).sz = 1 := rfl
  rw [hz, Nat.mul_one, List.drop_eq_getElem_cons hil, List.take_succ_cons, List.take_zero] at hv
  injection hv with hv _
  refine ⟨v, by rw [← hv]; exact List.getElem?_eq_getElem hil, Kd.R_mono hR (fun k hk => ⟨⟨fun e => hk.1.2 (by rw [e]; rfl), hk.1.1⟩, hk.2⟩)⟩
theorem RowsAt.below {ok : Nat → Prop} {w w1 : World} {b gS n c : Nat} {inner : List Value} {f : Nat → Nat} {xs : List (List Int)} (h : RowsAt ok w b gS n c inner f xs) (hb : Below w.heap.size w w1) : RowsAt ok w1 b gS n c inner f xs :=
  ⟨pw_own_below h.own hb, h.len, fun j x hj => by obtain ⟨v, hv, hR⟩ := h.rows j x hj; exact ⟨v, hv, Kd.R_below hR hb⟩⟩
theorem RowsAt.lists {ok : Nat → Prop} {w : World} {b gS n c : Nat} {inner : List Value} {f : Nat → Nat} {xs : List (List Int)} (h : RowsAt ok w b gS n c inner f xs) : n ≤ c ∧ kL.C w (some ⟨gS, 0, none⟩) n xs := by
  refine ⟨own_le h.own, lists_of_own (w0 := w) h.own h.len (fun j x hj => ?_) (Below.refl _ _)⟩
  obtain ⟨v, hv, hR⟩ := h.rows j x hj
  obtain ⟨A, c', rfl, hle, hC⟩ := Kd.R_reads hR
  exact ⟨_, hv, A, c', rfl, hle, hC⟩
/-- A number of row i is written over. -/
theorem RowsAt.put {ok : Nat → Prop} {w : World} {b gS n c : Nat} {inner : List Value} {f : Nat → Nat} {xs : List (List Int)} (h : RowsAt ok w b gS n c inner f xs) {i : Nat} {x : List Int} (hx : xs[i]? = some x) {gi m ci : Nat} (hi : inner[i]? = some (.slice (some ⟨gi, 0, none⟩) m ci)) (q : Nat) (z : Int) :
    RowsAt ok (w.setCell ⟨gi, q, none⟩ (.int .i64 z)) b gS n c inner f (xs.set i (x.set q z)) := by
  obtain ⟨v, hv, hR⟩ := h.rows i x hx
  rw [hi] at hv
  injection hv with hv
  subst hv
  have hok := hR.1 gi rfl
  refine ⟨own_setCell h.own (fun e => hok.1.1 (by injection e)) _, by rw [List.length_set]; exact h.len, fun j y hj => ?_⟩
  by_cases hji : i = j
  · subst hji
    have hil := (List.getElem?_eq_some_iff.1 hx).1
    rw [List.getElem?_set_self hil] at hj
    injection hj with hj
    subst hj
    refine ⟨_, hi, ?_⟩
    have := Kd.R_putn hR (q : Int) z
    simp only [Int.toNat_natCast] at this
    exact this
  · rw [List.getElem?_set_ne hji] at hj
    obtain ⟨u, hu, hRu⟩ := h.rows j y hj
    exact ⟨u, hu, Kd.R_far hRu (fun k hk e => hji (by rw [← hok.2, ← hk.2, e])) _⟩
theorem own_put22 {w : World} {b g n c : Nat} {us : List Value} (h : w.ownsRow b 22 1 (.slice (some ⟨g, 0, none⟩) n c) n us) (i : Nat) (v : Value) : (w.setCell ⟨g, i, none⟩ v).ownsRow b 22 1 (.slice (some ⟨g, 0, none⟩) n c) n (us.set i v) := by
  have e : ∀ l : List Value, encs (id : Value → Value) l = l := fun l => List.map_id l
  have h' : w.ownsRow b 22 1 (.slice (some ⟨g, 0, none⟩) n c) n (encs (id : Value → Value) us) := by rw [e]; exact h
  have := (own_store_of (enc := (id : Value → Value)) h' (i : Int) v).1
  rw [e, Int.toNat_natCast] at this
  exact this
/-- Row i has grown (its header is v1 now) and the header is stored. -/
theorem RowsAt.grow {ok : Nat → Prop} {w w1 : World} {b gS n c : Nat} {inner : List Value} {f : Nat → Nat} {xs : List (List Int)} (h : RowsAt ok w b gS n c inner f xs) {i : Nat} {x y : List Int} (hx : xs[i]? = some x) {v v1 : Value} (hi : inner[i]? = some v)
    (hg : w.grownBy w1 v.ownBlock) (hR : kI.R 3 w1 b (fun k => k ≠ gS) v1 y) : n ≤ c ∧ kL.C (w1.setCell ⟨gS, i, none⟩ v1) (some ⟨gS, 0, none⟩) n (xs.set i y) := by
  obtain ⟨v', hv', hRx⟩ := h.rows i x hx
  rw [hi] at hv'
  injection hv' with hv'
  subst hv'
  have hil := (List.getElem?_eq_some_iff.1 hx).1
  have ho1 : w1.ownsRow b 22 1 (.slice (some ⟨gS, 0, none⟩) n c) n inner := own_other h.own hg (.inr (fun e => (hRx.1 gS e.symm).1.1 rfl))
  have hin : inner.length = n := by have := h.own.1; omega
  have ho2 := own_put22 ho1 i v1
  refine ⟨own_le h.own, lists_of_own (w0 := w1.setCell ⟨gS, i, none⟩ v1) ho2 (by rw [List.length_set]; exact h.len) (fun j z hj => ?_) (Below.refl _ _)⟩
  by_cases hji : i = j
  · subst hji
    rw [List.getElem?_set_self hil] at hj
    injection hj with hj
    subst hj
    obtain ⟨A, c', rfl, hle, hC⟩ := Kd.R_reads (Kd.R_far (p := ⟨gS, i, none⟩) hR (fun k hk e => hk e) v1)
    exact ⟨_, List.getElem?_set_self (by rw [hin, ← h.len]; exact hil), A, c', rfl, hle, hC⟩
  · rw [List.getElem?_set_ne hji] at hj
    obtain ⟨u, hu, hRu⟩ := h.rows j z hj
    have hR1 := Kd.R_grown hRu hg (fun k hk e => hji (by rw [← (hRx.1 k e.symm).2, hk.2]))
    obtain ⟨A, c', rfl, hle, hC⟩ := Kd.R_reads (Kd.R_far (p := ⟨gS, i, none⟩) hR1 (fun k hk e => hk.1.1 e) v1)
    exact ⟨_, by rw [List.getElem?_set_ne hji]; exact hu, A, c', rfl, hle, hC⟩
theorem own_cell22 {w : World} {b g n c i : Nat} {us : List Value} {u : Value} (h : w.ownsRow b 22 1 (.slice (some ⟨g, 0, none⟩) n c) n us) (hi : us[i]? = some u) : w.cell? ⟨g, i, none⟩ = some u ∧ w.frozen? ⟨g, i, none⟩ = false := by
  have e : ∀ l : List Value, encs (id : Value → Value) l = l := fun l => List.map_id l
  have h' : w.ownsRow b 22 1 (.slice (some ⟨g, 0, none⟩) n c) n (encs (id : Value → Value) us) := by rw [e]; exact h
  have hl := (List.getElem?_eq_some_iff.1 hi).1
  have hn := h.1
  have := own_at_of (enc := (id : Value → Value)) (d := undef) h' (i : Int) (by omega) (by omega)
  rw [Int.toNat_natCast] at this
  refine ⟨?_, this.2⟩
  rw [this.1]
  unfold rdOf
  rw [Int.toNat_natCast, List.getD_eq_getElem?_getD, hi]
  rfl
end Go.Proofs.Ytgemcomcjojjbaa.PS
