/- Above is an order of the summaries of one shape, Meet the greatest that is above both; what EqSummary answers. No conditions. -/
import Derived.Test.YtgemcomcjojjbaaPSx7
import Derived.Test.YtgemcomcjojjbaaHShape
import Derived.Test.YtgemcomcjojjbaaHMeetW
import Derived.Test.YtgemcomcjojjbaaHAbove
namespace Go.Proofs.Ytgemcomcjojjbaa.PS
open Go.RowKit Go.Proofs.YtgemcomcjojjbaaW.PrintWords Go.Proofs.YtgemcomcjojjbaaW.PrintLast Go.Proofs.YtgemcomcjojjbaaW.PrintMore
set_option linter.unusedVariables false
set_option linter.unusedSimpArgs false

theorem eqints_l0 (xs ys : List Int) (h : xs.length = ys.length) (hl : xs.length ≤ 9223372036854775807) : ∀ (d i : Nat), xs.length - i = d → i ≤ xs.length → Ev (fun k => fugueref00_EqInts.l0 k xs ys (i : Int)) (xs.drop i == ys.drop i) := by
  intro d
  induction d with
  | zero =>
    intro i hd hi
    refine Ev.step (f := fun _ => some true) (fun k => by simp only [fugueref00_EqInts.l0]; rw [if_neg (by omega)]) ?_
    rw [List.drop_eq_nil_of_le (by omega), List.drop_eq_nil_of_le (by omega)]
    exact Ev.now _
  | succ d ih =>
    intro i hd hi
    have hx : i < xs.length := by omega
    have hy : i < ys.length := by omega
    have e1 : rd xs (i : Int) = xs[i] := rd_get xs i hx
    have e2 : rd ys (i : Int) = ys[i] := rd_get ys i hy
    refine Ev.step (fun k => by simp only [fugueref00_EqInts.l0]; rw [if_pos (by omega), if_pos (by omega), if_pos (by omega), e1, e2, wrap_in (by omega) (by omega)]) ?_
    rw [List.drop_eq_getElem_cons hx, List.drop_eq_getElem_cons hy, List.cons_beq_cons]
    by_cases he : xs[i] = ys[i]
    · simp only [if_pos he]
      rw [beq_iff_eq.2 he, Bool.true_and]
      exact ih (i + 1) (by omega) (by omega)
    · simp only [if_neg he]
      rw [beq_eq_false_iff_ne.2 he, Bool.false_and]
      exact Ev.now _
theorem eqints_ev (xs ys : List Int) (hl : xs.length ≤ 9223372036854775807) : Ev (fun k => fugueref00_EqInts.f k xs ys) (xs == ys) := by
  unfold fugueref00_EqInts.f
  by_cases h : xs.length = ys.length
  · simp only [if_pos (show (xs.length : Int) = (ys.length : Int) by omega)]
    simpa using eqints_l0 xs ys h hl xs.length 0 (by omega) (by omega)
  · simp only [if_neg (show ¬ (xs.length : Int) = (ys.length : Int) by omega)]
    rw [beq_eq_false_iff_ne.2 (fun he => h (by rw [he]))]
    exact Ev.now _
theorem rdL_get (xs : List (List Int)) (i : Nat) (h : i < xs.length) : rd_L1 xs (i : Int) = xs[i] := by unfold rd_L1; rw [Int.toNat_natCast, List.getD_eq_getElem?_getD, List.getElem?_eq_getElem h]; rfl
theorem eqlists_l0 (xs ys : List (List Int)) (h : xs.length = ys.length) (hl : xs.length ≤ 9223372036854775807) (hr : ∀ r ∈ xs, r.length ≤ 9223372036854775807) : ∀ (d i : Nat), xs.length - i = d → i ≤ xs.length → Ev (fun k => fugueref00_EqLists.l0 k xs ys (i : Int)) (xs.drop i == ys.drop i) := by
  intro d
  induction d with
  | zero =>
    intro i hd hi
    refine Ev.step (f := fun _ => some true) (fun k => by simp only [fugueref00_EqLists.l0]; rw [if_neg (by omega)]) ?_
    rw [List.drop_eq_nil_of_le (by omega), List.drop_eq_nil_of_le (by omega)]
    exact Ev.now _
  | succ d ih =>
    intro i hd hi
    have hx : i < xs.length := by omega
    have hy : i < ys.length := by omega
    have e1 : rd_L1 xs (i : Int) = xs[i] := rdL_get xs i hx
    have e2 : rd_L1 ys (i : Int) = ys[i] := rdL_get ys i hy
    refine Ev.step (fun k => by simp only [fugueref00_EqLists.l0]; rw [if_pos (by omega), if_pos (by omega), if_pos (by omega), e1, e2, wrap_in (by omega) (by omega)]) ?_
    rw [List.drop_eq_getElem_cons hx, List.drop_eq_getElem_cons hy, List.cons_beq_cons]
    refine Ev.bind (eqints_ev xs[i] ys[i] (hr _ (List.getElem_mem hx))) ?_
    by_cases he : (xs[i] == ys[i]) = true
    · simp only [if_pos he]
      rw [he, Bool.true_and]
      exact ih (i + 1) (by omega) (by omega)
    · simp only [if_neg he]
      rw [Bool.not_eq_true] at he
      rw [he, Bool.false_and]
      exact Ev.now _
theorem eqlists_ev (xs ys : List (List Int)) (hl : xs.length ≤ 9223372036854775807) (hr : ∀ r ∈ xs, r.length ≤ 9223372036854775807) : Ev (fun k => fugueref00_EqLists.f k xs ys) (xs == ys) := by
  unfold fugueref00_EqLists.f
  by_cases h : xs.length = ys.length
  · simp only [if_pos (show (xs.length : Int) = (ys.length : Int) by omega)]
    simpa using eqlists_l0 xs ys h hl hr xs.length 0 (by omega) (by omega)
  · simp only [if_neg (show ¬ (xs.length : Int) = (ys.length : Int) by omega)]
    rw [beq_eq_false_iff_ne.2 (fun he => h (by rw [he]))]
    exact Ev.now _
def eqS (a b : S31) : Bool := a.f0 == b.f0 && a.f1 == b.f1
theorem eqsum_ev (a b : S31) (h0 : a.f0.length ≤ 9223372036854775807) (h1 : a.f1.length ≤ 9223372036854775807) (h2 : ∀ r ∈ a.f1, r.length ≤ 9223372036854775807) : ∃ k, fugueref00_EqSummary.f k a.f0 a.f1 b.f0 b.f1 = some (eqS a b) := by
  refine Ev.rounds (g := fun k => fugueref00_EqSummary.f k a.f0 a.f1 b.f0 b.f1) ?_
  unfold fugueref00_EqSummary.f eqS
  refine Ev.bind (eqints_ev a.f0 b.f0 h0) ?_
  by_cases he : (a.f0 == b.f0) = true
  · simp only [if_pos he]
    rw [he, Bool.true_and]
    exact Ev.bind (eqlists_ev a.f1 b.f1 h1 h2) (Ev.now _)
  · simp only [if_neg he]
    rw [Bool.not_eq_true] at he
    rw [he, Bool.false_and]
    exact Ev.now _
/-! the order of lists of one length -/
def leL (x y : List Int) : Bool := (x.zip y).all leP
theorem leL_cons (a b : Int) (x y : List Int) : leL (a :: x) (b :: y) = (leP (a, b) && leL x y) := rfl
theorem leL_refl (x : List Int) : leL x x = true := by
  induction x with
  | nil => rfl
  | cons a x ih => rw [leL_cons, ih, Bool.and_true]; exact decide_eq_true (Int.le_refl a)
theorem leL_anti (x y : List Int) (h : x.length = y.length) : (leL x y && leL y x) = (x == y) := by
  induction x generalizing y with
  | nil => cases y with
    | nil => rfl
    | cons b y => simp at h
  | cons a x ih => cases y with
    | nil => simp at h
    | cons b y =>
      rw [leL_cons, leL_cons, List.cons_beq_cons, ← ih y (by simpa using h)]
      have e : (leP (a, b) && leP (b, a)) = (a == b) := by
        by_cases hab : a = b
        · subst hab
          rw [beq_self_eq_true]
          show (decide (a ≤ a) && decide (a ≤ a)) = true
          rw [decide_eq_true (Int.le_refl a)]
          rfl
        · rw [beq_eq_false_iff_ne.2 hab]
          show (decide (a ≤ b) && decide (b ≤ a)) = false
          by_cases h1 : a ≤ b
          · rw [decide_eq_false (show ¬ b ≤ a by omega), Bool.and_false]
          · rw [decide_eq_false h1, Bool.false_and]
      rw [← e]
      cases leP (a, b) <;> cases leP (b, a) <;> cases leL x y <;> cases leL y x <;> rfl
theorem leL_trans (x y z : List Int) (h : x.length = y.length) (h' : y.length = z.length) (h1 : leL x y = true) (h2 : leL y z = true) : leL x z = true := by
  induction x generalizing y z with
  | nil => cases z <;> rfl
  | cons a x ih => cases y with
    | nil => simp at h
    | cons b y => cases z with
      | nil => simp at h'
      | cons c z =>
        rw [leL_cons, Bool.and_eq_true] at h1 h2 ⊢
        refine ⟨?_, ih y z (by simpa using h) (by simpa using h') h1.2 h2.2⟩
        have e1 : a ≤ b := of_decide_eq_true h1.1
        have e2 : b ≤ c := of_decide_eq_true h2.1
        exact decide_eq_true (Int.le_trans e1 e2)
def minL (x y : List Int) : List Int := List.zipWith min x y
theorem minL_left (x y : List Int) : leL (minL x y) x = true := by
  induction x generalizing y with
  | nil => rfl
  | cons a x ih => cases y with
    | nil => rfl
    | cons b y =>
      show leL (min a b :: minL x y) (a :: x) = true
      rw [leL_cons, ih y, Bool.and_true]
      exact decide_eq_true (Int.min_le_left a b)
theorem minL_right (x y : List Int) : leL (minL x y) y = true := by
  induction x generalizing y with
  | nil => cases y <;> rfl
  | cons a x ih => cases y with
    | nil => rfl
    | cons b y =>
      show leL (min a b :: minL x y) (b :: y) = true
      rw [leL_cons, ih y, Bool.and_true]
      exact decide_eq_true (Int.min_le_right a b)
theorem minL_glb (z x y : List Int) (h : z.length = x.length) (h' : z.length = y.length) : leL z (minL x y) = (leL z x && leL z y) := by
  induction z generalizing x y with
  | nil => rfl
  | cons c z ih => cases x with
    | nil => simp at h
    | cons a x => cases y with
      | nil => simp at h'
      | cons b y =>
        show leL (c :: z) (min a b :: minL x y) = _
        rw [leL_cons, leL_cons, leL_cons, ih x y (by simpa using h) (by simpa using h')]
        have e : leP (c, min a b) = (leP (c, a) && leP (c, b)) := by
          show decide (c ≤ min a b) = (decide (c ≤ a) && decide (c ≤ b))
          by_cases h1 : c ≤ a
          · by_cases h2 : c ≤ b
            · rw [decide_eq_true h1, decide_eq_true h2, decide_eq_true (show c ≤ min a b by omega)]; rfl
            · rw [decide_eq_false h2, decide_eq_false (show ¬ c ≤ min a b by omega), Bool.and_false]
          · rw [decide_eq_false h1, decide_eq_false (show ¬ c ≤ min a b by omega), Bool.false_and]
        rw [e]
        cases leP (c, a) <;> cases leP (c, b) <;> cases leL z x <;> cases leL z y <;> rfl
theorem zw_comm {α : Type} (f : α → α → α) (hf : ∀ a b, f a b = f b a) (x y : List α) : List.zipWith f x y = List.zipWith f y x := by
  induction x generalizing y with
  | nil => cases y <;> rfl
  | cons a x ih => cases y with
    | nil => rfl
    | cons b y => rw [List.zipWith_cons_cons, List.zipWith_cons_cons, hf, ih]
theorem zw_assoc {α : Type} (f : α → α → α) (hf : ∀ a b c, f (f a b) c = f a (f b c)) (x y z : List α) : List.zipWith f (List.zipWith f x y) z = List.zipWith f x (List.zipWith f y z) := by
  induction x generalizing y z with
  | nil => rfl
  | cons a x ih => cases y with
    | nil => cases z <;> rfl
    | cons b y => cases z with
      | nil => rfl
      | cons c z => simp only [List.zipWith_cons_cons, hf, ih]
theorem meet_comm (a b : S31) : meetS a b = meetS b a := by
  unfold meetS
  rw [zw_comm min Int.min_comm a.f0 b.f0, zw_comm (List.zipWith min) (zw_comm min Int.min_comm) a.f1 b.f1]
theorem meet_assoc (a b c : S31) : meetS (meetS a b) c = meetS a (meetS b c) := by
  unfold meetS
  simp only [zw_assoc min Int.min_assoc, zw_assoc (List.zipWith min) (zw_assoc min Int.min_assoc)]
/-! summaries of one shape -/
def flat (S : S31) : List Int := S.f0 ++ S.f1.flatten
theorem right_parts {P R : Int} {S : S31} (h : rightS P R S = true) : (S.f0.length : Int) = P ∧ (S.f1.length : Int) = P ∧ S.f0.all isN = true ∧ ∀ r ∈ S.f1, (r.length : Int) = R ∧ r.all isN = true := by
  simp only [rightS, Bool.and_eq_true, decide_eq_true_eq] at h
  obtain ⟨h1, h2, h3, h4⟩ := h
  refine ⟨h1, h2, h3, fun r hr => ?_⟩
  rw [List.all_eq_true] at h4
  have := h4 r hr
  simpa only [rowN, Bool.and_eq_true, decide_eq_true_eq] using this
theorem zip_flat : ∀ (y y' : List (List Int)) (R : Int), y.length = y'.length → (∀ r ∈ y, (r.length : Int) = R) → (∀ r ∈ y', (r.length : Int) = R) → ((y.zip y').flatMap fun p => p.1.zip p.2) = y.flatten.zip y'.flatten := by
  intro y
  induction y with
  | nil => intro y' R h _ _; simp
  | cons r y ih =>
    intro y' R h h1 h2
    cases y' with
    | nil => simp at h
    | cons s y' =>
      have e1 := h1 r (List.mem_cons_self)
      have e2 := h2 s (List.mem_cons_self)
      rw [List.zip_cons_cons, List.flatMap_cons, ih y' R (by simpa using h) (fun t ht => h1 t (List.mem_cons_of_mem _ ht)) (fun t ht => h2 t (List.mem_cons_of_mem _ ht)), List.flatten_cons, List.flatten_cons, List.zip_append (by omega)]
theorem pairs_flat {P R : Int} {a b : S31} (ha : rightS P R a = true) (hb : rightS P R b = true) : pairsS a b = (flat a).zip (flat b) := by
  obtain ⟨h1, h2, _, h4⟩ := right_parts ha
  obtain ⟨k1, k2, _, k4⟩ := right_parts hb
  unfold pairsS rowsOf flat
  rw [List.zip_cons_cons, List.flatMap_cons, zip_flat a.f1 b.f1 R (by omega) (fun r hr => (h4 r hr).1) (fun r hr => (k4 r hr).1), List.zip_append (by omega)]
theorem flat_len {P R : Int} {a b : S31} (ha : rightS P R a = true) (hb : rightS P R b = true) : (flat a).length = (flat b).length := by
  obtain ⟨h1, h2, _, h4⟩ := right_parts ha
  obtain ⟨k1, k2, _, k4⟩ := right_parts hb
  have gen : ∀ (y y' : List (List Int)), y.length = y'.length → (∀ r ∈ y, (r.length : Int) = R) → (∀ r ∈ y', (r.length : Int) = R) → y.flatten.length = y'.flatten.length := by
    intro y
    induction y with
    | nil => intro y' h _ _; cases y' with
      | nil => rfl
      | cons s y' => simp at h
    | cons r y ih => intro y' h h1 h2; cases y' with
      | nil => simp at h
      | cons s y' =>
        have e1 := h1 r (List.mem_cons_self)
        have e2 := h2 s (List.mem_cons_self)
        have := ih y' (by simpa using h) (fun t ht => h1 t (List.mem_cons_of_mem _ ht)) (fun t ht => h2 t (List.mem_cons_of_mem _ ht))
        rw [List.flatten_cons, List.flatten_cons, List.length_append, List.length_append]
        omega
  have := gen a.f1 b.f1 (by omega) (fun r hr => (h4 r hr).1) (fun r hr => (k4 r hr).1)
  unfold flat
  rw [List.length_append, List.length_append]
  omega
theorem flat_eq {P R : Int} {a b : S31} (ha : rightS P R a = true) (hb : rightS P R b = true) : (flat a == flat b) = eqS a b := by
  obtain ⟨h1, h2, _, h4⟩ := right_parts ha
  obtain ⟨k1, k2, _, k4⟩ := right_parts hb
  have gen : ∀ (y y' : List (List Int)), y.length = y'.length → (∀ r ∈ y, (r.length : Int) = R) → (∀ r ∈ y', (r.length : Int) = R) → y.flatten = y'.flatten → y = y' := by
    intro y
    induction y with
    | nil => intro y' h _ _ _; cases y' with
      | nil => rfl
      | cons s y' => simp at h
    | cons r y ih => intro y' h h1 h2 he; cases y' with
      | nil => simp at h
      | cons s y' =>
        have e1 := h1 r (List.mem_cons_self)
        have e2 := h2 s (List.mem_cons_self)
        rw [List.flatten_cons, List.flatten_cons] at he
        have := List.append_inj he (by omega)
        rw [this.1, ih y' (by simpa using h) (fun t ht => h1 t (List.mem_cons_of_mem _ ht)) (fun t ht => h2 t (List.mem_cons_of_mem _ ht)) this.2]
  unfold eqS
  rw [Bool.eq_iff_iff, Bool.and_eq_true, beq_iff_eq, beq_iff_eq, beq_iff_eq]
  constructor
  · intro h
    unfold flat at h
    have := List.append_inj h (by omega)
    exact ⟨this.1, gen a.f1 b.f1 (by omega) (fun r hr => (h4 r hr).1) (fun r hr => (k4 r hr).1) this.2⟩
  · rintro ⟨e1, e2⟩
    unfold flat
    rw [e1, e2]
theorem both_right {P R : Int} {a b : S31} (ha : rightS P R a = true) (hb : rightS P R b = true) : bothS a b = true := by
  obtain ⟨h1, h2, h3, h4⟩ := right_parts ha
  obtain ⟨k1, k2, k3, k4⟩ := right_parts hb
  unfold bothS
  rw [decide_eq_true (show a.f1.length = b.f1.length by omega), Bool.true_and, List.all_eq_true]
  rintro ⟨r, s⟩ hp
  have hm := List.of_mem_zip hp
  unfold rowsOf at hm hp
  rw [List.zip_cons_cons, List.mem_cons] at hp
  have : r.length = s.length ∧ r.all isN = true ∧ s.all isN = true := by
    rcases hp with hp | hp
    · injection hp with e1 e2
      subst e1
      subst e2
      exact ⟨by omega, h3, k3⟩
    · have hm := List.of_mem_zip hp
      have e1 := h4 r hm.1
      have e2 := k4 s hm.2
      exact ⟨by omega, e1.2, e2.2⟩
  unfold okPair
  rw [decide_eq_true this.1, this.2.1, this.2.2]
  rfl
theorem above_flat {P R : Int} {a b : S31} (ha : rightS P R a = true) (hb : rightS P R b = true) : aboveS a b = leL (flat a) (flat b) := by
  unfold aboveS leL
  rw [both_right ha hb, pairs_flat ha hb, Bool.true_and]
theorem isN_min (x y : Int) (h : isN x = true) (h' : isN y = true) : isN (min x y) = true := by
  rcases Int.le_total x y with h1 | h1
  · rw [Int.min_eq_left h1]; exact h
  · rw [Int.min_eq_right h1]; exact h'
theorem all_min (x y : List Int) (h : x.all isN = true) (h' : y.all isN = true) : (List.zipWith min x y).all isN = true := by
  induction x generalizing y with
  | nil => rfl
  | cons a x ih => cases y with
    | nil => rfl
    | cons b y =>
      rw [List.all_cons, Bool.and_eq_true] at h h'
      rw [List.zipWith_cons_cons, List.all_cons, isN_min a b h.1 h'.1, ih y h.2 h'.2]
      rfl
theorem meet_right {P R : Int} {a b : S31} (ha : rightS P R a = true) (hb : rightS P R b = true) : rightS P R (meetS a b) = true := by
  obtain ⟨h1, h2, h3, h4⟩ := right_parts ha
  obtain ⟨k1, k2, k3, k4⟩ := right_parts hb
  unfold rightS meetS
  simp only [Bool.and_eq_true, decide_eq_true_eq, List.length_zipWith]
  refine ⟨by omega, by omega, all_min _ _ h3 k3, ?_⟩
  rw [List.all_eq_true]
  intro r hr
  obtain ⟨i, hi, rfl⟩ := List.getElem_of_mem hr
  have hi' : i < a.f1.length ∧ i < b.f1.length := by rw [List.length_zipWith] at hi; omega
  rw [List.getElem_zipWith]
  have e1 := h4 _ (List.getElem_mem hi'.1)
  have e2 := k4 _ (List.getElem_mem hi'.2)
  unfold rowN
  rw [all_min _ _ e1.2 e2.2, List.length_zipWith, decide_eq_true (by omega)]
  rfl
theorem meet_flat {P R : Int} {a b : S31} (ha : rightS P R a = true) (hb : rightS P R b = true) : flat (meetS a b) = minL (flat a) (flat b) := by
  have h := mins_eq a b
  rw [pairs_flat ha hb, map_zip] at h
  exact h.symm
theorem eqS_self (a : S31) : eqS a a = true := by unfold eqS; rw [beq_self_eq_true, beq_self_eq_true]; rfl
/-- What the law asks of three summaries of one shape. -/
theorem order_facts {P R : Int} {a b c : S31} (ha : rightS P R a = true) (hb : rightS P R b = true) (hc : rightS P R c = true) :
    aboveS a a = true ∧ (aboveS a b && aboveS b a) = eqS a b ∧ (aboveS a b = true → aboveS b c = true → aboveS a c = true) ∧ aboveS (meetS a b) a = true ∧ aboveS (meetS a b) b = true ∧ aboveS c (meetS a b) = (aboveS c a && aboveS c b) := by
  have hm := meet_right ha hb
  refine ⟨?_, ?_, ?_, ?_, ?_, ?_⟩
  · rw [above_flat ha ha]; exact leL_refl _
  · rw [above_flat ha hb, above_flat hb ha, leL_anti _ _ (flat_len ha hb), flat_eq ha hb]
  · rw [above_flat ha hb, above_flat hb hc, above_flat ha hc]
    exact leL_trans _ _ _ (flat_len ha hb) (flat_len hb hc)
  · rw [above_flat hm ha, meet_flat ha hb]; exact minL_left _ _
  · rw [above_flat hm hb, meet_flat ha hb]; exact minL_right _ _
  · rw [above_flat hc hm, above_flat hc ha, above_flat hc hb, meet_flat ha hb]
    exact minL_glb _ _ _ (flat_len hc ha) (flat_len hc hb)
end Go.Proofs.Ytgemcomcjojjbaa.PS
