/- Summaries with one number in another's place, one number more, one list less: what Check, Encode, Meet and Above say of them. No conditions. -/
import Derived.Test.YtgemcomcjojjbaaHRefC
namespace Go.Proofs.Ytgemcomcjojjbaa.PS
open Go.RowKit Go.Proofs.YtgemcomcjojjbaaW.PrintWords Go.Proofs.YtgemcomcjojjbaaW.PrintLast Go.Proofs.YtgemcomcjojjbaaW.PrintMore
set_option linter.unusedVariables false
set_option linter.unusedSimpArgs false

def numsS (X : S31) : Bool := X.f0.all isN && X.f1.all fun r => r.all isN
structure Shaped (P R : Int) (X : S31) : Prop where
  l0 : (X.f0.length : Int) = P
  l1 : (X.f1.length : Int) = P
  lr : ∀ r ∈ X.f1, (r.length : Int) = R
structure Small (X : S31) : Prop where
  l0 : X.f0.length ≤ 8
  l1 : X.f1.length ≤ 8
  lr : ∀ r ∈ X.f1, r.length ≤ 5
theorem right_shaped {P R : Int} {X : S31} (h : rightS P R X = true) : Shaped P R X ∧ numsS X = true := by
  obtain ⟨h1, h2, h3, h4⟩ := right_parts h
  refine ⟨⟨h1, h2, fun r hr => (h4 r hr).1⟩, ?_⟩
  unfold numsS
  rw [h3, Bool.true_and, List.all_eq_true]
  exact fun r hr => (h4 r hr).2
theorem shaped_right {P R : Int} {X : S31} (h : Shaped P R X) : rightS P R X = numsS X := by
  unfold rightS numsS
  rw [decide_eq_true h.l0, decide_eq_true h.l1, Bool.true_and, Bool.true_and]
  congr 1
  rw [Bool.eq_iff_iff, List.all_eq_true, List.all_eq_true]
  refine ⟨fun H r hr => ?_, fun H r hr => ?_⟩
  · have := H r hr
    unfold rowN at this
    rw [Bool.and_eq_true] at this
    exact this.2
  · unfold rowN
    rw [decide_eq_true (h.lr r hr), H r hr]
    rfl
theorem shaped_small {P R : Int} {X : S31} (h : Shaped P R X) (hs : shapeS P R = true) : Small X := by
  simp only [shapeS, Bool.and_eq_true, decide_eq_true_eq] at hs
  have h0 := h.l0
  have h1 := h.l1
  exact ⟨by omega, by omega, fun r hr => by have := h.lr r hr; omega⟩
theorem both_shaped {P R : Int} {X s : S31} (h : Shaped P R X) (hs : rightS P R s = true) : bothS X s = numsS X := by
  obtain ⟨k1, k2, k3, k4⟩ := right_parts hs
  cases hn : numsS X with
  | true => exact both_right (by rw [shaped_right h, hn]) hs
  | false =>
    rw [Bool.eq_false_iff]
    intro hb
    have hl := h.l1
    unfold bothS at hb
    rw [Bool.and_eq_true, List.all_eq_true] at hb
    have key : ∀ r ∈ rowsOf X, r.all isN = true := by
      intro r hr
      obtain ⟨q, hq, rfl⟩ := List.getElem_of_mem hr
      have hq' : q < (rowsOf s).length := by unfold rowsOf at hq ⊢; rw [List.length_cons] at hq ⊢; omega
      have := hb.2 (((rowsOf X).zip (rowsOf s))[q]'(by rw [List.length_zip]; omega)) (List.getElem_mem _)
      rw [List.getElem_zip] at this
      unfold okPair at this
      simp only [Bool.and_eq_true] at this
      exact this.2.1
    have : numsS X = true := by
      unfold numsS
      rw [key X.f0 (List.mem_cons_self), Bool.true_and, List.all_eq_true]
      exact fun r hr => key r (List.mem_cons_of_mem _ hr)
    rw [this] at hn
    cases hn
theorem both_self {P R : Int} {X : S31} (h : Shaped P R X) : bothS X X = numsS X := by
  cases hn : numsS X with
  | true => have := shaped_right h; rw [hn] at this; exact both_right this this
  | false =>
    rw [Bool.eq_false_iff]
    intro hb
    unfold bothS at hb
    rw [Bool.and_eq_true, List.all_eq_true] at hb
    have key : ∀ r ∈ rowsOf X, r.all isN = true := by
      intro r hr
      obtain ⟨q, hq, rfl⟩ := List.getElem_of_mem hr
      have := hb.2 (((rowsOf X).zip (rowsOf X))[q]'(by rw [List.length_zip]; omega)) (List.getElem_mem _)
      rw [List.getElem_zip] at this
      unfold okPair at this
      simp only [Bool.and_eq_true] at this
      exact this.2.1
    have : numsS X = true := by
      unfold numsS
      rw [key X.f0 (List.mem_cons_self), Bool.true_and, List.all_eq_true]
      exact fun r hr => key r (List.mem_cons_of_mem _ hr)
    rw [this] at hn
    cases hn
theorem above_self {P R : Int} {X : S31} (h : Shaped P R X) : aboveS X X = numsS X := by
  cases hn : numsS X with
  | true => have := shaped_right h; rw [hn] at this; rw [above_flat this this]; exact leL_refl _
  | false => unfold aboveS; rw [both_self h, hn]; rfl
theorem above_not {X Y : S31} (h : bothS X Y = false) : aboveS X Y = false := by unfold aboveS; rw [h]; rfl
theorem set_all {α : Type} (p : α → Bool) (xs : List α) (i : Nat) (z : α) (hi : i < xs.length) (h : xs.all p = true) : (xs.set i z).all p = p z := by
  rw [List.all_eq_true] at h
  cases hz : p z with
  | true =>
    rw [List.all_eq_true]
    intro y hy
    rcases List.mem_or_eq_of_mem_set hy with h1 | h1
    · exact h y h1
    · rw [h1]; exact hz
  | false =>
    rw [Bool.eq_false_iff]
    intro ha
    rw [List.all_eq_true] at ha
    have := ha z (List.mem_set hi z)
    rw [this] at hz
    cases hz
theorem put_head {P R : Int} {s : S31} (h : rightS P R s = true) (i : Nat) (hi : i < s.f0.length) (z : Int) : Shaped P R ⟨s.f0.set i z, s.f1⟩ ∧ numsS ⟨s.f0.set i z, s.f1⟩ = isN z := by
  obtain ⟨⟨h0, h1, hr⟩, hn⟩ := right_shaped h
  refine ⟨⟨by rw [List.length_set]; exact h0, h1, hr⟩, ?_⟩
  unfold numsS at hn ⊢
  rw [Bool.and_eq_true] at hn
  rw [set_all isN s.f0 i z hi hn.1, hn.2, Bool.and_true]
theorem put_row {P R : Int} {s : S31} (h : rightS P R s = true) (i j : Nat) (hi : i < s.f1.length) (hj : j < s.f1[i].length) (z : Int) : Shaped P R ⟨s.f0, s.f1.set i (s.f1[i].set j z)⟩ ∧ numsS ⟨s.f0, s.f1.set i (s.f1[i].set j z)⟩ = isN z := by
  obtain ⟨⟨h0, h1, hr⟩, hn⟩ := right_shaped h
  refine ⟨⟨h0, by rw [List.length_set]; exact h1, fun r hm => ?_⟩, ?_⟩
  · rcases List.mem_or_eq_of_mem_set hm with e | e
    · exact hr r e
    · rw [e, List.length_set]; exact hr _ (List.getElem_mem hi)
  · unfold numsS at hn ⊢
    rw [Bool.and_eq_true] at hn
    have hrow : (s.f1[i]).all isN = true := by have := hn.2; rw [List.all_eq_true] at this; exact this _ (List.getElem_mem hi)
    rw [hn.1, Bool.true_and, set_all (fun r => r.all isN) s.f1 i _ hi hn.2, set_all isN _ j z hj hrow]
theorem more_facts {P R : Int} {s : S31} (h : rightS P R s = true) (hs : shapeS P R = true) (i : Nat) (hi : i < s.f1.length) : rightS P R ⟨s.f0, s.f1.set i (s.f1[i] ++ [0])⟩ = false ∧ bothS s ⟨s.f0, s.f1.set i (s.f1[i] ++ [0])⟩ = false ∧ Small ⟨s.f0, s.f1.set i (s.f1[i] ++ [0])⟩ := by
  obtain ⟨hsh, hn⟩ := right_shaped h
  have hsm := shaped_small hsh hs
  have hlen : ((s.f1[i] ++ [0]).length : Int) = R + 1 := by rw [List.length_append]; have := hsh.lr _ (List.getElem_mem hi); simp; omega
  refine ⟨?_, ?_, ⟨hsm.l0, by rw [List.length_set]; exact hsm.l1, fun r hm => ?_⟩⟩
  · rw [Bool.eq_false_iff]
    intro hr
    obtain ⟨_, _, _, h4⟩ := right_parts hr
    have := (h4 (s.f1[i] ++ [0]) (List.mem_set hi _)).1
    omega
  · rw [Bool.eq_false_iff]
    intro hb
    unfold bothS at hb
    rw [Bool.and_eq_true, List.all_eq_true] at hb
    have := hb.2 (((rowsOf s).zip (rowsOf ⟨s.f0, s.f1.set i (s.f1[i] ++ [0])⟩))[i + 1]'(by unfold rowsOf; simp [List.length_zip]; exact hi)) (List.getElem_mem _)
    rw [List.getElem_zip] at this
    unfold okPair rowsOf at this
    simp only [List.getElem_cons_succ, List.getElem_set_self, Bool.and_eq_true, decide_eq_true_eq] at this
    have := this.1
    rw [List.length_append] at this
    simp at this
  · rcases List.mem_or_eq_of_mem_set hm with e | e
    · exact hsm.lr r e
    · rw [e]
      have := hsm.lr _ (List.getElem_mem hi)
      have h2 := hsh.lr _ (List.getElem_mem hi)
      simp only [shapeS, Bool.and_eq_true, decide_eq_true_eq] at hs
      omega
theorem less_facts {P R : Int} {s : S31} (h : rightS P R s = true) (hs : shapeS P R = true) (hp : 0 < s.f1.length) : rightS P R ⟨s.f0, s.f1.take (s.f1.length - 1)⟩ = false ∧ bothS ⟨s.f0, s.f1.take (s.f1.length - 1)⟩ s = false ∧ Small ⟨s.f0, s.f1.take (s.f1.length - 1)⟩ := by
  obtain ⟨hsh, hn⟩ := right_shaped h
  have hsm := shaped_small hsh hs
  have h1 := hsh.l1
  have hl : (s.f1.take (s.f1.length - 1)).length = s.f1.length - 1 := by rw [List.length_take]; omega
  refine ⟨?_, ?_, ⟨hsm.l0, by rw [hl]; have := hsm.l1; omega, fun r hm => hsm.lr r (List.mem_of_mem_take hm)⟩⟩
  · rw [Bool.eq_false_iff]
    intro hr
    obtain ⟨_, h2, _⟩ := right_parts hr
    have h2 : ((s.f1.take (s.f1.length - 1)).length : Int) = P := h2
    omega
  · unfold bothS
    rw [decide_eq_false (show ¬ ((s.f1.take (s.f1.length - 1)).length = s.f1.length) by omega)]
    rfl
theorem small_rows {X : S31} (h : Small X) : (1 + X.f1.length) * 24 ≤ 140737488355328 := by have := h.l1; omega
theorem small_pairs {X Y : S31} (h : Small X) : (pairsS X Y).length * 8 ≤ 140737488355328 := by
  have gen : ∀ (x y : List (List Int)), (∀ r ∈ x, r.length ≤ 8) → ((x.zip y).flatMap fun p => p.1.zip p.2).length ≤ 8 * x.length := by
    intro x
    induction x with
    | nil => intro y _; simp
    | cons r x ih =>
      intro y hr
      cases y with
      | nil => simp
      | cons t y =>
        rw [List.zip_cons_cons, List.flatMap_cons, List.length_append, List.length_cons]
        have e1 := ih y (fun q hq => hr q (List.mem_cons_of_mem _ hq))
        have e2 := hr r (List.mem_cons_self)
        have e3 : (r.zip t).length ≤ r.length := by rw [List.length_zip]; exact Nat.min_le_left _ _
        simp only at e3 ⊢
        omega
  have := gen (rowsOf X) (rowsOf Y) (fun r hr => by
    unfold rowsOf at hr
    rcases List.mem_cons.1 hr with e | e
    · rw [e]; exact h.l0
    · have := h.lr r e; omega)
  unfold pairsS
  have hl : (rowsOf X).length ≤ 9 := by unfold rowsOf; rw [List.length_cons]; have := h.l1; omega
  omega
section
variable {P R : Int} {X Y : S31} {gX gY : Nat} {A0 A1 B0 B1 : Option Addr} {c0 c1 d0 d1 : Nat} {w : World}
theorem aboveN (hX : SumC w gX A0 c0 A1 c1 X) (hY : SumC w gY B0 d0 B1 d1 Y) (sX : Small X) (sY : Small Y) {v : Bool} (hv : aboveS X Y = v) : Calls Try.prog 10 #[.agg #[.slice A0 X.f0.length c0, .slice A1 X.f1.length c1], .agg #[.slice B0 Y.f0.length d0, .slice B1 Y.f1.length d1]] w fun e w' => e = .returned (.bool v) ∧ Below w.heap.size w w' := by
  subst hv
  exact above_any X Y A0 c0 A1 c1 B0 d0 B1 d1 w hX.h0 hX.l0 hX.h1 hX.l1 hY.h0 hY.l0 hY.h1 hY.l1 (small_rows sX) (small_rows sY)
theorem meetF (hX : SumC w gX A0 c0 A1 c1 X) (hY : SumC w gY B0 d0 B1 d1 Y) (sX : Small X) (sY : Small Y) (hb : bothS X Y = false) : Calls Try.prog 13 #[.agg #[.slice A0 X.f0.length c0, .slice A1 X.f1.length c1], .agg #[.slice B0 Y.f0.length d0, .slice B1 Y.f1.length d1]] w fun e w' => e = .returned (.tuple #[.agg #[.slice none 0 0, .slice none 0 0], .int .i64 90]) ∧ Below w.heap.size w w' := by
  refine (meet_any X Y A0 c0 A1 c1 B0 d0 B1 d1 w hX.h0 hX.l0 hX.h1 hX.l1 hY.h0 hY.l0 hY.h1 hY.l1 (small_rows sX) (small_rows sY) (small_pairs sX)).mono ?_
  rintro e w' ⟨h, _, hb'⟩
  exact ⟨h hb, hb'⟩
theorem meetN (hX : SumC w gX A0 c0 A1 c1 X) (hY : SumC w gY B0 d0 B1 d1 Y) (sX : Small X) (sY : Small Y) {z : Bool} (hb : bothS X Y = z) : Calls Try.prog 13 #[.agg #[.slice A0 X.f0.length c0, .slice A1 X.f1.length c1], .agg #[.slice B0 Y.f0.length d0, .slice B1 Y.f1.length d1]] w fun e w' => ∃ A m c B n d, e = .returned (.tuple #[.agg #[.slice A m c, .slice B n d], .int .i64 (bif z then 0 else 90)]) ∧ Below w.heap.size w w' := by
  refine (meet_any X Y A0 c0 A1 c1 B0 d0 B1 d1 w hX.h0 hX.l0 hX.h1 hX.l1 hY.h0 hY.l0 hY.h1 hY.l1 (small_rows sX) (small_rows sY) (small_pairs sX)).mono ?_
  rintro e w' ⟨h1, h2, hb'⟩
  cases z with
  | false => exact ⟨none, 0, 0, none, 0, 0, h1 hb, hb'⟩
  | true =>
    obtain ⟨A, c, A', c', he, _⟩ := h2 hb
    exact ⟨A, _, c, A', _, c', he, hb'⟩
theorem checkN (p r v : Int) (B : Option Addr) (n b : Nat) (hX : SumC w gX A0 c0 A1 c1 X) {z : Bool} (rX : rightS p r X = z) (hs : shapeS p r = true) : Calls Try.prog 12 #[.agg #[.int .i64 p, .int .i64 r, .int .i64 v, .slice B n b], .agg #[.slice A0 X.f0.length c0, .slice A1 X.f1.length c1]] w fun e w' => e = .returned (.int .i64 (bif z then 0 else 90)) ∧ Below w.heap.size w w' := by
  refine (check_any p r v B n b X A0 c0 A1 c1 w hX.h0 hX.l0 hX.h1 hX.l1).mono ?_
  rintro e w' ⟨rfl, hb⟩
  exact ⟨by unfold checkS; rw [hs, rX]; cases z <;> rfl, hb⟩
theorem encN (p r : Int) (B : Option Addr) (b : Nat) (hX : SumC w gX A0 c0 A1 c1 X) {z : Bool} (rX : rightS p r X = z) (hs : shapeS p r = true) : Calls Try.prog 16 #[.slice (some ⟨w.heap.size, 0, none⟩) 1 1, .slice (some ⟨w.heap.size + 1, 0, none⟩) 1 1] ((w.alloc (.cells #[.int .i64 p, .int .i64 r, .int .i64 0, .slice B 0 b] 28)).alloc (.cells #[.slice A0 X.f0.length c0, .slice A1 X.f1.length c1] 31)) fun e w' => ∃ v, e = .returned (.tuple #[v, .int .i64 (bif z then 0 else 90)]) ∧ Below w.heap.size w w' := by
  have hf : k28.C (w.alloc (.cells #[.int .i64 p, .int .i64 r, .int .i64 0, .slice B 0 b] 28)) (some ⟨w.heap.size, 0, none⟩) 1 [(⟨p, r, 0, []⟩ : S28)] :=
    lit_C (d := k28) (x := (⟨p, r, 0, []⟩ : S28)) (cs := #[.int .i64 p, .int .i64 r, .int .i64 0, .slice B 0 b]) 28 (k28_mk w (⟨p, r, 0, []⟩ : S28) (Nat.zero_le b) ⟨rfl, Nat.zero_le _, fun h => absurd h (Nat.lt_irrefl 0)⟩) (by decide)
  have ht := lit_C (d := k31) (w := w.alloc (.cells #[.int .i64 p, .int .i64 r, .int .i64 0, .slice B 0 b] 28)) (x := X) (cs := #[.slice A0 X.f0.length c0, .slice A1 X.f1.length c1]) 31 (k31_mk _ X hX.l0 (Kd.C_alloc hX.h0 _) hX.l1 (Kd.C_alloc hX.h1 _)) (by decide)
  rw [show (w.alloc (.cells #[.int .i64 p, .int .i64 r, .int .i64 0, .slice B 0 b] 28)).heap.size = w.heap.size + 1 from by simp] at ht
  refine (enc_any [⟨p, r, 0, []⟩] [X] (some ⟨w.heap.size, 0, none⟩) 1 (some ⟨w.heap.size + 1, 0, none⟩) 1 _ (Kd.C_alloc hf _) ht (by simp)).mono ?_
  rintro e w' ⟨v, rfl, _, hb⟩
  refine ⟨v, ?_, below_then (below_alloc (below_alloc (Below.refl w.heap.size w) _) _) (by simp; omega) hb⟩
  have : encErr [⟨p, r, 0, []⟩] [X] = bif z then 0 else 90 := by
    unfold encErr
    have h1 : ([⟨p, r, 0, []⟩] : List S28).all shapeF = true := by simp [shapeF, hs]
    have h2 : (([⟨p, r, 0, []⟩] : List S28).zip [X]).all rightF = z := by simp [rightF, rX]
    rw [h1, if_pos rfl, h2]
    cases z <;> rfl
  rw [this]
theorem copyC (hX : SumC w gX A0 c0 A1 c1 X) (rX : rightS P R X = true) (hs : shapeS P R = true) : Calls Try.prog 14 #[.agg #[.slice A0 X.f0.length c0, .slice A1 X.f1.length c1]] w fun e w' => ∃ A c A' c', e = .returned (.agg #[.slice A X.f0.length c, .slice A' X.f1.length c']) ∧ kI.R 3 w' w.heap.size (fun _ => True) (.slice A X.f0.length c) X.f0 ∧ Kd.S kL 22 w' w.heap.size (fun k => some k ≠ (Value.slice A X.f0.length c).ownBlock) (.slice A' X.f1.length c') X.f1 ∧ Below w.heap.size w w' := by
  obtain ⟨k, hk⟩ := copysum_ok rX hs
  refine (fugueref00_CopySummary.calls k A0 c0 X.f0 A1 c1 X.f1 X.f0 X.f1 w hX.h0 hX.l0 hX.h1 hX.l1 hk).mono ?_
  rintro e w' ⟨v0, v1, rfl, h0, h1, hb⟩
  obtain ⟨A, c, rfl⟩ := Kd.R_slice h0
  obtain ⟨A', c', rfl⟩ := Kd.S_slice h1
  exact ⟨A, c, A', c', rfl, h0, h1, hb⟩
end
end Go.Proofs.Ytgemcomcjojjbaa.PS
