import Derived.Test.YtmjdiiockddalaaHFrom
namespace Go.Proofs.Ytmjdiiockddalaa.PW
open Go.RowKit Go.Proofs.YtmjdiiockddalaaW.PrintWords
set_option linter.unusedVariables false
set_option linter.unusedSimpArgs false

/-! the weights, without the machine -/
inductive Reach (es : List S41) (rs : List Int) : Int → Int → Prop
  | root {r : Int} (h : r ∈ rs) : Reach es rs r 0
  | edge {e : S41} {d : Int} (h : e ∈ es) (hd : Reach es rs e.f0 d) : Reach es rs e.f1 (plus d e.f2)

def Good (n : Nat) (es : List S41) (rs : List Int) : Prop := (∀ e ∈ es, 0 ≤ e.f0 ∧ e.f0 < n ∧ 0 ≤ e.f1 ∧ e.f1 < n ∧ -1 ≤ e.f2 ∧ e.f2 ≤ 3) ∧ ∀ r ∈ rs, 0 ≤ r ∧ r < n

theorem wt_eq {d : Int} (h0 : -1 ≤ d) (h1 : d ≤ 3) : wt d = d := by unfold wt; rw [if_neg (by omega), if_neg (by omega)]
theorem plus_eq {d x : Int} (h0 : -1 ≤ d) (h1 : d ≤ 3) (h2 : -1 ≤ x) (h3 : x ≤ 3) : plus d x = mn (mx d 0 + x) 3 := by
  unfold plus
  rw [wt_eq h0 h1, wt_eq h2 h3, if_neg (by omega), if_neg (by omega)]
theorem plus_range {d x : Int} (h0 : -1 ≤ d) (h1 : d ≤ 3) (h2 : -1 ≤ x) (h3 : x ≤ 3) : -1 ≤ plus d x ∧ plus d x ≤ 3 := by
  rw [plus_eq h0 h1 h2 h3]
  unfold mn mx; (repeat' split) <;> omega
theorem plus_nine (x : Int) : plus 9 x = 9 := by unfold plus wt; simp
theorem plus_mono {d d' x : Int} (h : d ≤ d') (h0 : -1 ≤ d) (h1 : d' ≤ 3 ∨ d' = 9) (hd : d ≤ 3 ∨ d = 9) (h2 : -1 ≤ x) (h3 : x ≤ 3) : plus d x ≤ plus d' x := by
  rcases h1 with h1 | rfl
  · rw [plus_eq h0 (by omega) h2 h3, plus_eq (by omega) h1 h2 h3]
    unfold mn mx; (repeat' split) <;> omega
  · rw [plus_nine]
    rcases hd with hd | rfl
    · have := plus_range h0 hd h2 h3; omega
    · rw [plus_nine]; omega
theorem plus_le {d x : Int} (h0 : -1 ≤ d) (hd : d ≤ 3 ∨ d = 9) (h2 : -1 ≤ x) (h3 : x ≤ 3) : -1 ≤ plus d x ∧ plus d x ≤ 9 := by
  rcases hd with hd | rfl
  · have := plus_range h0 hd h2 h3; omega
  · rw [plus_nine]; omega
theorem plus_lt9 {d x : Int} (h0 : -1 ≤ d) (hd : d ≤ 3 ∨ d = 9) (h2 : -1 ≤ x) (h3 : x ≤ 3) (h : plus d x < 9) : d ≤ 3 := by
  rcases hd with hd | rfl
  · exact hd
  · rw [plus_nine] at h; omega
theorem Reach.range {n : Nat} {es : List S41} {rs : List Int} (hg : Good n es rs) {i d : Int} (h : Reach es rs i d) : -1 ≤ d ∧ d ≤ 3 ∧ 0 ≤ i ∧ i < n := by
  induction h with
  | root h => have := hg.2 _ h; omega
  | edge h hd ih => have h1 := hg.1 _ h; have := plus_range ih.1 ih.2.1 h1.2.2.2.2.1 h1.2.2.2.2.2; omega

structure Sol (n : Nat) (es : List S41) (rs : List Int) (b : List Int) : Prop where
  len : b.length = n
  root : ∀ r ∈ rs, rd b r ≤ 0
  edge : ∀ e ∈ es, rd b e.f1 ≤ plus (rd b e.f0) e.f2
  way : ∀ i : Int, 0 ≤ i → i < n → rd b i = 9 ∨ Reach es rs i (rd b i)

theorem Sol.range {n : Nat} {es : List S41} {rs b : List Int} (hg : Good n es rs) (h : Sol n es rs b) (i : Int) (h0 : 0 ≤ i) (h1 : i < n) : -1 ≤ rd b i ∧ (rd b i ≤ 3 ∨ rd b i = 9) := by
  rcases h.way i h0 h1 with h2 | h2
  · omega
  · have := h2.range hg; omega
/-- No way is shorter. -/
theorem Sol.least {n : Nat} {es : List S41} {rs b : List Int} (hg : Good n es rs) (h : Sol n es rs b) {i d : Int} (hr : Reach es rs i d) : rd b i ≤ d := by
  induction hr with
  | root hr => exact h.root _ hr
  | edge he hd ih =>
    have h1 := hg.1 _ he
    have h2 := hd.range hg
    have h3 := h.range hg _ h1.1 h1.2.1
    exact Int.le_trans (h.edge _ he) (plus_mono ih h3.1 (.inl h2.2.1) h3.2 h1.2.2.2.2.1 h1.2.2.2.2.2)
theorem rd_ext {b c : List Int} (hl : b.length = c.length) (h : ∀ i : Int, 0 ≤ i → i < b.length → rd b i = rd c i) : b = c := by
  apply List.ext_getElem hl
  intro i h1 h2
  have := h (i : Int) (by omega) (by omega)
  unfold rd at this
  simpa [List.getD_eq_getElem?_getD, List.getElem?_eq_getElem h1, List.getElem?_eq_getElem h2] using this
theorem Sol.le {n : Nat} {es es' : List S41} {rs rs' b c : List Int} (hg : Good n es rs) (hb : Sol n es rs b) (hc : Sol n es' rs' c) (hR : ∀ i d, Reach es' rs' i d → ∃ d', d' ≤ d ∧ Reach es rs i d') (i : Int) (h0 : 0 ≤ i) (h1 : i < n) : rd b i ≤ rd c i := by
  rcases hc.way i h0 h1 with h2 | h2
  · have := hb.range hg i h0 h1; omega
  · obtain ⟨d', hd, hr⟩ := hR _ _ h2
    exact Int.le_trans (hb.least hg hr) hd
theorem Sol.unique {n : Nat} {es : List S41} {rs b c : List Int} (hg : Good n es rs) (hb : Sol n es rs b) (hc : Sol n es rs c) : b = c := by
  refine rd_ext (by rw [hb.len, hc.len]) (fun i h0 h1 => ?_)
  rw [hb.len] at h1
  have a := hb.le hg hc (fun i d h => ⟨d, Int.le_refl _, h⟩) i h0 h1
  have b := hc.le hg hb (fun i d h => ⟨d, Int.le_refl _, h⟩) i h0 h1
  omega

/-! the queue comes to it -/
theorem rd_set {b : List Int} {i j v : Int} (hi0 : 0 ≤ i) (hi : i < b.length) (hj0 : 0 ≤ j) : rd (b.set i.toNat v) j = if i = j then v else rd b j := by
  unfold rd
  rw [List.getD_eq_getElem?_getD, List.getD_eq_getElem?_getD, List.getElem?_set]
  by_cases h : i = j
  · subst h
    rw [if_pos rfl, if_pos rfl, if_pos (by omega)]
    rfl
  · rw [if_neg h, if_neg (by omega)]

def pot (b : List Int) : Nat := (b.map fun x => (x + 1).toNat).sum
theorem pot_set (b : List Int) : ∀ (i : Nat) (v : Int), i < b.length → pot (b.set i v) + (b.getD i 0 + 1).toNat = pot b + (v + 1).toNat := by
  induction b with
  | nil => intro i v h; simp at h
  | cons x b ih =>
    intro i v h
    cases i with
    | zero => simp [pot]; omega
    | succ i =>
      have := ih i v (by simpa using h)
      simp only [pot, List.set_cons_succ, List.map_cons, List.sum_cons, List.getD_cons_succ] at this ⊢
      omega
theorem addq_mem {q : List Int} {t x : Int} : x ∈ addq q t ↔ x ∈ q ∨ x = t := by
  unfold addq
  split
  · constructor
    · exact .inl
    · rintro (h | rfl) <;> assumption
  · simp
theorem addq_len (q : List Int) (t : Int) : (addq q t).length ≤ q.length + 1 := by unfold addq; split <;> simp

/-- What holds of the weights so far and of what waits. -/
structure Inv (n : Nat) (es : List S41) (rs : List Int) (b q : List Int) : Prop where
  len : b.length = n
  root : ∀ r ∈ rs, rd b r ≤ 0
  way : ∀ i : Int, 0 ≤ i → i < n → rd b i = 9 ∨ Reach es rs i (rd b i)
theorem Inv.range {n : Nat} {es : List S41} {rs b q : List Int} (hg : Good n es rs) (h : Inv n es rs b q) (i : Int) (h0 : 0 ≤ i) (h1 : i < n) : -1 ≤ rd b i ∧ (rd b i ≤ 3 ∨ rd b i = 9) := by
  rcases h.way i h0 h1 with h2 | h2
  · omega
  · have := h2.range hg; omega

/-- One edge. -/
theorem relax_step {n : Nat} {es : List S41} {rs b q : List Int} (hg : Good n es rs) (h : Inv n es rs b q) {a : Int} {e : S41} (he : e ∈ es) (ha : e.f0 = a) :
    Inv n es rs (relaxStep a (b, q) e).1 (relaxStep a (b, q) e).2 ∧ (∀ x ∈ q, x ∈ (relaxStep a (b, q) e).2) ∧ (∀ i : Int, 0 ≤ i → i < n → rd (relaxStep a (b, q) e).1 i ≤ rd b i) ∧
    (∀ i : Int, 0 ≤ i → i < n → i ∉ (relaxStep a (b, q) e).2 → rd (relaxStep a (b, q) e).1 i = rd b i) ∧ (a ∈ (relaxStep a (b, q) e).2 ∨ rd (relaxStep a (b, q) e).1 e.f1 ≤ plus (rd (relaxStep a (b, q) e).1 a) e.f2) ∧
    2 * pot (relaxStep a (b, q) e).1 + (relaxStep a (b, q) e).2.length ≤ 2 * pot b + q.length := by
  obtain ⟨e1, e2, e3, e4, e5, e6⟩ := hg.1 e he
  subst ha
  have hr := h.range hg e.f0 e1 e2
  have hr1 := h.range hg e.f1 e3 e4
  unfold relaxStep
  simp only
  by_cases hlt : plus (rd b e.f0) e.f2 < rd b e.f1
  · rw [if_pos hlt]
    simp only
    have hp := plus_le hr.1 hr.2 e5 e6
    have h3 := plus_lt9 hr.1 hr.2 e5 e6 (by omega)
    have hlen := h.len
    have hset : ∀ j : Int, 0 ≤ j → rd (b.set e.f1.toNat (plus (rd b e.f0) e.f2)) j = if e.f1 = j then plus (rd b e.f0) e.f2 else rd b j := fun j hj => rd_set e3 (by omega) hj
    refine ⟨⟨by simp [h.len], fun r hr' => ?_, fun i h0 h1 => ?_⟩, fun x hx => addq_mem.2 (.inl hx), fun i h0 h1 => ?_, fun i h0 h1 hi => ?_, ?_, ?_⟩
    · have hr2 := hg.2 r hr'
      rw [hset r hr2.1]
      have := h.root r hr'
      split
      · rename_i heq; rw [heq] at hlt; omega
      · exact this
    · rw [hset i h0]
      split
      · rename_i heq
        subst heq
        refine .inr ?_
        rcases h.way e.f0 e1 e2 with h9 | hw
        · omega
        · exact .edge he hw
      · exact h.way i h0 h1
    · rw [hset i h0]
      split
      · rename_i heq; rw [← heq]; omega
      · exact Int.le_refl _
    · rw [hset i h0, if_neg]
      rintro rfl
      exact hi (addq_mem.2 (.inr rfl))
    · by_cases hs : e.f1 = e.f0
      · exact .inl (addq_mem.2 (.inr hs.symm))
      · refine .inr ?_
        rw [hset _ e3, hset _ e1, if_pos rfl, if_neg hs]
        exact Int.le_refl _
    · have hl := addq_len q e.f1
      have hps := pot_set b e.f1.toNat (plus (rd b e.f0) e.f2) (by omega)
      have : b.getD e.f1.toNat 0 = rd b e.f1 := rfl
      rw [this] at hps
      omega
  · rw [if_neg hlt]
    exact ⟨h, fun x hx => hx, fun i _ _ => Int.le_refl _, fun i _ _ _ => rfl, .inr (by simp only; omega), Nat.le_refl _⟩

/-- All edges of one location. -/
theorem relax_all {n : Nat} {es : List S41} {rs : List Int} (hg : Good n es rs) {a : Int} : ∀ (l : List S41) (b q : List Int), (∀ e ∈ l, e ∈ es ∧ e.f0 = a) → Inv n es rs b q →
    Inv n es rs (l.foldl (relaxStep a) (b, q)).1 (l.foldl (relaxStep a) (b, q)).2 ∧ (∀ x ∈ q, x ∈ (l.foldl (relaxStep a) (b, q)).2) ∧ (∀ i : Int, 0 ≤ i → i < n → rd (l.foldl (relaxStep a) (b, q)).1 i ≤ rd b i) ∧
    (∀ i : Int, 0 ≤ i → i < n → i ∉ (l.foldl (relaxStep a) (b, q)).2 → rd (l.foldl (relaxStep a) (b, q)).1 i = rd b i) ∧ (a ∈ (l.foldl (relaxStep a) (b, q)).2 ∨ ∀ e ∈ l, rd (l.foldl (relaxStep a) (b, q)).1 e.f1 ≤ plus (rd (l.foldl (relaxStep a) (b, q)).1 a) e.f2) ∧
    2 * pot (l.foldl (relaxStep a) (b, q)).1 + (l.foldl (relaxStep a) (b, q)).2.length ≤ 2 * pot b + q.length := by
  intro l
  induction l with
  | nil => intro b q _ h; exact ⟨h, fun x hx => hx, fun i _ _ => Int.le_refl _, fun i _ _ _ => rfl, .inr (by simp), Nat.le_refl _⟩
  | cons e l ih =>
    intro b q hl h
    obtain ⟨he, ha⟩ := hl e List.mem_cons_self
    obtain ⟨s1, s2, s3, s4, s5, s6⟩ := relax_step hg h he ha
    obtain ⟨t1, t2, t3, t4, t5, t6⟩ := ih (relaxStep a (b, q) e).1 (relaxStep a (b, q) e).2 (fun x hx => hl x (List.mem_cons_of_mem _ hx)) s1
    obtain ⟨e1, e2, e3, e4, e5, e6⟩ := hg.1 e he
    rw [List.foldl_cons]
    refine ⟨t1, fun x hx => t2 x (s2 x hx), fun i h0 h1 => Int.le_trans (t3 i h0 h1) (s3 i h0 h1), fun i h0 h1 hi => ?_, ?_, Nat.le_trans t6 s6⟩
    · rw [t4 i h0 h1 hi]
      exact s4 i h0 h1 (fun hx => hi (t2 i hx))
    · by_cases hin : a ∈ (l.foldl (relaxStep a) (relaxStep a (b, q) e)).2
      · exact .inl hin
      · refine .inr fun x hx => ?_
        rcases List.mem_cons.1 hx with rfl | hx
        · have h1 := s5.resolve_left (fun hy => hin (t2 a hy))
          have h2 := t4 a (by omega) (by omega) hin
          have h3 := t3 x.f1 e3 e4
          have h2' : rd (l.foldl (relaxStep a) (relaxStep a (b, q) x)).1 a = rd (relaxStep a (b, q) x).1 a := h2
          have h3' : rd (l.foldl (relaxStep a) (relaxStep a (b, q) x)).1 x.f1 ≤ rd (relaxStep a (b, q) x).1 x.f1 := h3
          rw [h2']
          omega
        · exact (t5.resolve_left hin) x hx

theorem into_eq (es : List S41) : ∀ (I : List (List S41)) (i : Nat), i < I.length → (∀ e ∈ es, e.f0.toNat < I.length) → (es.foldl intoStep I).getD i [] = I.getD i [] ++ es.filter (fun e => e.f0.toNat == i) := by
  induction es with
  | nil => intro I i _ _; simp
  | cons e es ih =>
    intro I i hi hl
    rw [List.foldl_cons, ih (intoStep I e) i (by simpa [intoStep] using hi) (fun x hx => by simpa [intoStep] using hl x (List.mem_cons_of_mem _ hx))]
    have he := hl e List.mem_cons_self
    unfold intoStep
    rw [List.getD_eq_getElem?_getD, List.getElem?_set, List.filter_cons]
    by_cases h : e.f0.toNat = i
    · rw [if_pos h, if_pos he, if_pos (by simpa using h), h]
      simp
    · rw [if_neg h, if_neg (by simpa using h), ← List.getD_eq_getElem?_getD]
theorem into_at {n : Nat} {es : List S41} {rs : List Int} (hg : Good n es rs) {a : Int} (h0 : 0 ≤ a) (h1 : a < n) : ∀ e, e ∈ (es.foldl intoStep (List.replicate n [])).getD a.toNat [] ↔ e ∈ es ∧ e.f0 = a := by
  intro e
  rw [into_eq es _ _ (by simp; omega) (fun x hx => by have := hg.1 x hx; simp; omega)]
  have : (List.replicate n ([] : List S41)).getD a.toNat [] = [] := by
    rw [List.getD_eq_getElem?_getD, List.getElem?_replicate]
    split <;> rfl
  rw [this, List.nil_append, List.mem_filter]
  constructor
  · rintro ⟨h2, h3⟩
    have := hg.1 e h2
    have h4 : e.f0.toNat = a.toNat := by simpa using h3
    exact ⟨h2, by omega⟩
  · rintro ⟨h2, h3⟩
    exact ⟨h2, by simp [h3]⟩

theorem run_sol {n : Nat} {es : List S41} {rs : List Int} (hg : Good n es rs) : ∀ (k : Nat) (b q : List Int), Inv n es rs b q → (∀ e ∈ es, e.f0 ∈ q ∨ rd b e.f1 ≤ plus (rd b e.f0) e.f2) → (∀ x ∈ q, 0 ≤ x ∧ x < (n : Int)) → 2 * pot b + q.length < k →
    ∃ r, run (es.foldl intoStep (List.replicate n [])) k b q = some r ∧ Sol n es rs r := by
  intro k
  induction k with
  | zero => intro b q _ _ _ h; omega
  | succ k ih =>
    intro b q hI hE hQ hk
    cases q with
    | nil => exact ⟨b, rfl, ⟨hI.len, hI.root, fun e he => (hE e he).resolve_left (by simp), hI.way⟩⟩
    | cons a q =>
      obtain ⟨ha0, ha1⟩ := hQ a List.mem_cons_self
      have hin := into_at hg ha0 ha1
      obtain ⟨l, hl⟩ : ∃ l, l = (es.foldl intoStep (List.replicate n [])).getD a.toNat [] := ⟨_, rfl⟩
      obtain ⟨t1, t2, t3, t4, t5, t6⟩ := relax_all hg l b q (fun e he => (hin e).1 (by rw [← hl]; exact he)) ⟨hI.len, hI.root, hI.way⟩
      rw [run, ← hl]
      refine ih _ _ t1 (fun e he => ?_) (fun x hx => ?_) (by simp only [List.length_cons] at hk; omega)
      · obtain ⟨e1, e2, e3, e4, e5, e6⟩ := hg.1 e he
        by_cases hq : e.f0 ∈ (l.foldl (relaxStep a) (b, q)).2
        · exact .inl hq
        · refine .inr ?_
          by_cases hea : e.f0 = a
          · rw [hea] at hq ⊢
            exact (t5.resolve_left hq) e (by rw [hl]; exact (hin e).2 ⟨he, hea⟩)
          · rcases hE e he with h1 | h1
            · rcases List.mem_cons.1 h1 with h2 | h2
              · exact absurd h2 hea
              · exact absurd (t2 _ h2) hq
            · rw [t4 _ e1 e2 hq]
              exact Int.le_trans (t3 _ e3 e4) h1
      · have hmem : ∀ (l : List S41) (s : List Int × List Int), (∀ e ∈ l, 0 ≤ e.f1 ∧ e.f1 < (n : Int)) → (∀ y ∈ s.2, 0 ≤ y ∧ y < (n : Int)) → ∀ y ∈ (l.foldl (relaxStep a) s).2, 0 ≤ y ∧ y < (n : Int) := by
          intro l
          induction l with
          | nil => intro s _ hs; exact hs
          | cons e l ih2 =>
            intro s hl hs
            rw [List.foldl_cons]
            refine ih2 _ (fun x hx => hl x (List.mem_cons_of_mem _ hx)) (fun y hy => ?_)
            unfold relaxStep at hy
            split at hy
            · rcases addq_mem.1 hy with h | rfl
              · exact hs y h
              · exact hl e List.mem_cons_self
            · exact hs y hy
        refine hmem l (b, q) (fun e he => ?_) (fun y hy => hQ y (List.mem_cons_of_mem _ hy)) x hx
        have h2 := ((hin e).1 (by rw [← hl]; exact he)).1
        exact ⟨(hg.1 e h2).2.2.1, (hg.1 e h2).2.2.2.1⟩

theorem start_inv {n : Nat} {es : List S41} {rs : List Int} (hg : Good n es rs) : ∀ (l done b q : List Int), (∀ r ∈ l, r ∈ rs) → (∀ r ∈ done, r ∈ q ∧ rd b r ≤ 0) → (∀ r ∈ q, r ∈ rs) → b.length = n → (∀ i : Int, 0 ≤ i → i < n → (rd b i = 9 ∧ i ∉ q) ∨ (rd b i = 0 ∧ Reach es rs i 0)) → q.Nodup →
    (l.foldl startStep (b, q)).1.length = n ∧ (∀ i : Int, 0 ≤ i → i < n → (rd (l.foldl startStep (b, q)).1 i = 9 ∧ i ∉ (l.foldl startStep (b, q)).2) ∨ (rd (l.foldl startStep (b, q)).1 i = 0 ∧ Reach es rs i 0)) ∧ (∀ r ∈ done ++ l, r ∈ (l.foldl startStep (b, q)).2 ∧ rd (l.foldl startStep (b, q)).1 r ≤ 0) ∧ (∀ r ∈ (l.foldl startStep (b, q)).2, r ∈ rs) ∧ (l.foldl startStep (b, q)).2.Nodup := by
  intro l
  induction l with
  | nil => intro done b q _ hd hq hb hi hn; exact ⟨hb, hi, by simpa using hd, hq, hn⟩
  | cons r l ih =>
    intro done b q hl hd hq hb hi hn
    have hr := hl r List.mem_cons_self
    have hr2 := hg.2 r hr
    have hset : ∀ j : Int, 0 ≤ j → rd (b.set r.toNat 0) j = if r = j then 0 else rd b j := fun j hj => rd_set hr2.1 (by omega) hj
    have := ih (done ++ [r]) (b.set r.toNat 0) (addq q r) (fun x hx => hl x (List.mem_cons_of_mem _ hx)) (fun x hx => ?_) (fun x hx => ?_) (by simpa using hb) (fun i h0 h1 => ?_) ?_
    · rw [List.foldl_cons]
      simpa [startStep] using this
    · rcases List.mem_append.1 hx with h | h
      · have h2 := hd x h
        have h3 := hg.2 x (hq x h2.1)
        refine ⟨addq_mem.2 (.inl h2.1), ?_⟩
        rw [hset x h3.1]
        split
        · omega
        · exact h2.2
      · have : x = r := by simpa using h
        subst this
        refine ⟨addq_mem.2 (.inr rfl), ?_⟩
        rw [hset _ hr2.1, if_pos rfl]
        omega
    · rcases addq_mem.1 hx with h | rfl
      · exact hq x h
      · exact hr
    · rw [hset i h0]
      by_cases h : r = i
      · subst h
        rw [if_pos rfl]
        exact .inr ⟨rfl, .root hr⟩
      · rw [if_neg h]
        rcases hi i h0 h1 with ⟨h2, h3⟩ | h2
        · refine .inl ⟨h2, fun hx => ?_⟩
          rcases addq_mem.1 hx with h4 | h4
          · exact h3 h4
          · exact h h4.symm
        · exact .inr h2
    · unfold addq
      split
      · exact hn
      · rw [List.nodup_append]
        exact ⟨hn, by simp, fun a ha b hb => by simp at hb; subst hb; rintro rfl; contradiction⟩

theorem pot_le (b : List Int) (h : ∀ x ∈ b, x ≤ 9) : pot b ≤ 10 * b.length := by
  induction b with
  | nil => simp [pot]
  | cons x b ih =>
    have := ih (fun y hy => h y (List.mem_cons_of_mem _ hy))
    have := h x List.mem_cons_self
    simp only [pot, List.map_cons, List.sum_cons, List.length_cons] at *
    omega

/-- The weights are there, and are what they should be. -/
theorem weights_sol {n : Nat} {es : List S41} {rs : List Int} (hg : Good n es rs) : ∃ b, weights n es rs = some b ∧ Sol n es rs b := by
  have h9 : ∀ i : Int, 0 ≤ i → i < n → rd (List.replicate n (9 : Int)) i = 9 := by
    intro i h0 h1
    unfold rd
    rw [List.getD_eq_getElem?_getD, List.getElem?_replicate, if_pos (by omega)]
    rfl
  obtain ⟨s1, s2, s3, s4, s5⟩ := start_inv hg rs [] (List.replicate n 9) [] (fun r hr => hr) (by simp) (by simp) (by simp) (fun i h0 h1 => .inl ⟨h9 i h0 h1, by simp⟩) (by simp)
  rw [List.nil_append] at s3
  unfold weights
  refine run_sol hg _ _ _ ⟨s1, fun r hr => (s3 r hr).2, fun i h0 h1 => ?_⟩ (fun e he => ?_) (fun x hx => hg.2 x (s4 x hx)) ?_
  · rcases s2 i h0 h1 with h | h
    · exact .inl h.1
    · exact .inr (by rw [h.1]; exact h.2)
  · obtain ⟨e1, e2, e3, e4, e5, e6⟩ := hg.1 e he
    rcases s2 e.f0 e1 e2 with h | h
    · refine .inr ?_
      rw [h.1, plus_nine]
      rcases s2 e.f1 e3 e4 with h | h <;> omega
    · by_cases hq : e.f0 ∈ (rs.foldl startStep (List.replicate n 9, [])).2
      · exact .inl hq
      · refine .inl ?_
        have hroot : ∀ i d, Reach es rs i d → d = 0 → i ∈ rs ∨ True := fun _ _ _ _ => .inr trivial
        exact absurd h.1 (by
          intro h0
          -- a location whose weight is 0 is one of the roots
          exact hq (by
            have hz : ∀ (l : List Int) (b q : List Int), (∀ i : Int, 0 ≤ i → i < n → rd b i = 0 → i ∈ q) → b.length = n → (∀ r ∈ l, 0 ≤ r ∧ r < (n : Int)) → ∀ i : Int, 0 ≤ i → i < n → rd (l.foldl startStep (b, q)).1 i = 0 → i ∈ (l.foldl startStep (b, q)).2 := by
              intro l
              induction l with
              | nil => intro b q h _ _; exact h
              | cons r l ih =>
                intro b q h hb hl
                rw [List.foldl_cons]
                have hr := hl r List.mem_cons_self
                refine ih (b.set r.toNat 0) (addq q r) (fun i h0 h1 hi => ?_) (by simpa using hb) (fun x hx => hl x (List.mem_cons_of_mem _ hx))
                rw [rd_set hr.1 (by omega) h0] at hi
                by_cases hri : r = i
                · exact addq_mem.2 (.inr hri.symm)
                · rw [if_neg hri] at hi
                  exact addq_mem.2 (.inl (h i h0 h1 hi))
            exact hz rs (List.replicate n 9) [] (fun i h0 h1 hi => by rw [h9 i h0 h1] at hi; omega) (by simp) hg.2 e.f0 e1 e2 h0))
  · have hp : pot (rs.foldl startStep (List.replicate n 9, [])).1 ≤ 10 * n := by
      have := pot_le (rs.foldl startStep (List.replicate n 9, [])).1 (fun x hx => by
        obtain ⟨i, hi, rfl⟩ := List.mem_iff_getElem.1 hx
        have h := s2 (i : Int) (by omega) (by omega)
        unfold rd at h
        rw [Int.toNat_natCast, List.getD_eq_getElem?_getD, List.getElem?_eq_getElem hi] at h
        simp only [Option.getD_some] at h
        omega)
      rwa [s1] at this
    have hq := (GoodQ.mk s5 (fun x hx => hg.2 x (s4 x hx)) : GoodQ n _).len
    omega

theorem good_of {n : Nat} {es : List S41} {rs : List Int} (h : okG n es rs = true) : Good n es rs := ⟨(okG_spec h).2.1, (okG_spec h).2.2⟩
theorem okG_of {n : Nat} {es : List S41} {rs : List Int} (hn : n ≤ 1048576) (h : Good n es rs) : okG n es rs = true := by
  unfold okG
  rw [Bool.and_eq_true, Bool.and_eq_true, decide_eq_true_eq, List.all_eq_true, List.all_eq_true]
  exact ⟨⟨by omega, fun e he => by unfold okE; rw [decide_eq_true_eq]; exact h.1 e he⟩, fun r hr => by unfold okR; rw [decide_eq_true_eq]; exact h.2 r hr⟩
/-- What weigh.From answers. -/
theorem from_good_f {n : Nat} {es : List S41} {rs : List Int} (hn : n ≤ 1048576) (hl : es.length < 5864062014805) (h : Good n es rs) : ∃ b, weigh_From.f n es rs = some (b, 0) ∧ Sol n es rs b := by
  obtain ⟨b, hb, hs⟩ := weights_sol h
  refine ⟨b, ?_, hs⟩
  unfold weigh_From.f
  rw [if_pos hl, if_pos (okG_of hn h), Int.toNat_natCast, hb]
  rfl
theorem from_bad_f {n : Int} {es : List S41} {rs : List Int} (hl : es.length < 5864062014805) (h : okG n es rs = false) : weigh_From.f n es rs = some ([], 1) := by
  unfold weigh_From.f
  rw [if_pos hl, h]
  rfl
end Go.Proofs.Ytmjdiiockddalaa.PW
