/- SumsRounds over plain lists: there and back. No conditions but the arguments' sizes. -/
import Derived.Test.YtgemcomcjojjbaaHRoundF
import Derived.Test.YtgemcomcjojjbaaHRoundP
namespace Go.Proofs.Ytgemcomcjojjbaa.PS
open Go.RowKit Go.Proofs.YtgemcomcjojjbaaW.PrintWords Go.Proofs.YtgemcomcjojjbaaW.PrintLast Go.Proofs.YtgemcomcjojjbaaW.PrintMore
set_option linter.unusedVariables false
set_option linter.unusedSimpArgs false

theorem eqbytes_l0 (xs ys : List Int) (h : xs.length = ys.length) (hl : xs.length ≤ 9223372036854775807) : ∀ (d i : Nat), xs.length - i = d → i ≤ xs.length → Ev (fun k => fugueref00_EqBytes.l0 k xs ys (i : Int)) (xs.drop i == ys.drop i) := by
  intro d
  induction d with
  | zero =>
    intro i hd hi
    refine Ev.step (f := fun _ => some true) (fun k => by simp only [fugueref00_EqBytes.l0]; rw [if_neg (by omega)]) ?_
    rw [List.drop_eq_nil_of_le (by omega), List.drop_eq_nil_of_le (by omega)]
    exact Ev.now _
  | succ d ih =>
    intro i hd hi
    have hx : i < xs.length := by omega
    have hy : i < ys.length := by omega
    have e1 : rd xs (i : Int) = xs[i] := rd_get xs i hx
    have e2 : rd ys (i : Int) = ys[i] := rd_get ys i hy
    refine Ev.step (fun k => by simp only [fugueref00_EqBytes.l0]; rw [if_pos (by omega), if_pos (by omega), if_pos (by omega), e1, e2, wrap_in (by omega) (by omega)]) ?_
    rw [List.drop_eq_getElem_cons hx, List.drop_eq_getElem_cons hy, List.cons_beq_cons]
    by_cases he : xs[i] = ys[i]
    · simp only [if_pos he]
      rw [beq_iff_eq.2 he, Bool.true_and]
      exact ih (i + 1) (by omega) (by omega)
    · simp only [if_neg he]
      rw [beq_eq_false_iff_ne.2 he, Bool.false_and]
      exact Ev.now _
theorem eqbytes_ev (xs ys : List Int) (hl : xs.length ≤ 9223372036854775807) : Ev (fun k => fugueref00_EqBytes.f k xs ys) (xs == ys) := by
  unfold fugueref00_EqBytes.f
  by_cases h : xs.length = ys.length
  · simp only [if_pos (show (xs.length : Int) = (ys.length : Int) by omega)]
    simpa using eqbytes_l0 xs ys h hl xs.length 0 (by omega) (by omega)
  · simp only [if_neg (show ¬ (xs.length : Int) = (ys.length : Int) by omega)]
    rw [beq_eq_false_iff_ne.2 (fun he => h (by rw [he]))]
    exact Ev.now _
theorem rdS_get (xs : List S31) (i : Nat) (h : i < xs.length) : rd_T31 xs (i : Int) = xs[i] := by unfold rd_T31; rw [Int.toNat_natCast, List.getD_eq_getElem?_getD, List.getElem?_eq_getElem h]; rfl
/-- A summary whose lists are no longer than a list can be. -/
def SmallS (a : S31) : Prop := a.f0.length ≤ 9223372036854775807 ∧ a.f1.length ≤ 9223372036854775807 ∧ ∀ r ∈ a.f1, r.length ≤ 9223372036854775807
theorem eqs_iff (a b : S31) : eqS a b = true ↔ a = b := by
  unfold eqS
  rw [Bool.and_eq_true, beq_iff_eq, beq_iff_eq]
  constructor
  · rintro ⟨h1, h2⟩
    cases a; cases b
    simp only at h1 h2
    rw [h1, h2]
  · rintro rfl
    exact ⟨rfl, rfl⟩
theorem eqsums_self (xs : List S31) (hl : xs.length ≤ 9223372036854775807) (hr : ∀ r ∈ xs, SmallS r) : Ev (fun k => fugueref00_EqSums.f k xs xs) true := by
  have gen : ∀ (d i : Nat), xs.length - i = d → i ≤ xs.length → Ev (fun k => fugueref00_EqSums.l0 k xs xs (i : Int)) true := by
    intro d
    induction d with
    | zero =>
      intro i hd hi
      exact Ev.step (f := fun _ => some true) (fun k => by simp only [fugueref00_EqSums.l0]; rw [if_neg (by omega)]) (Ev.now _)
    | succ d ih =>
      intro i hd hi
      have hx : i < xs.length := by omega
      have e1 : rd_T31 xs (i : Int) = xs[i] := rdS_get xs i hx
      obtain ⟨s0, s1, s2⟩ := hr _ (List.getElem_mem hx)
      obtain ⟨k0, hk0⟩ := eqsum_ev xs[i] xs[i] s0 s1 s2
      rw [eqS_self] at hk0
      refine Ev.step (fun k => by simp only [fugueref00_EqSums.l0]; rw [if_pos (by omega), if_pos (by omega), if_pos (by omega), e1, wrap_in (by omega) (by omega)]) ?_
      refine Ev.bind (Ev.of (fun k => fugueref00_EqSummary.mono _ _ _ _ k) hk0) ?_
      simp only [if_true]
      exact ih (i + 1) (by omega) (by omega)
  unfold fugueref00_EqSums.f
  simp only [if_true]
  exact gen xs.length 0 (by omega) (by omega)
theorem copy_ev (xs : List Int) (hl : xs.length < 140737488355328) : Ev (fun k => fugueref00_CopyBytes.f k xs) xs := by
  have gen : ∀ (d i : Nat), xs.length - i = d → i ≤ xs.length → Ev (fun k => fugueref00_CopyBytes.l0 k xs (xs.take i) (i : Int)) xs := by
    intro d
    induction d with
    | zero =>
      intro i hd hi
      refine Ev.step (f := fun _ => some xs) (fun k => by simp only [fugueref00_CopyBytes.l0]; rw [if_neg (by omega), List.take_of_length_le (by omega)]) (Ev.now _)
    | succ d ih =>
      intro i hd hi
      have hx : i < xs.length := by omega
      have e1 : rd xs (i : Int) = xs[i] := rd_get xs i hx
      refine Ev.step (fun k => by simp only [fugueref00_CopyBytes.l0]; rw [if_pos (by omega), if_pos (by omega), if_pos (by rw [List.length_take]; omega), e1, wrap_in (by omega) (by omega), ← List.take_succ_eq_append_getElem hx]) ?_
      exact ih (i + 1) (by omega) (by omega)
  unfold fugueref00_CopyBytes.f
  simpa using gen xs.length 0 (by omega) (by omega)
theorem isN_range {d : Int} (h : isN d = true) : 0 ≤ d ∧ d ≤ 255 := by
  unfold isN at h
  simp only [Bool.or_eq_true, beq_iff_eq, Bool.and_eq_true, decide_eq_true_eq] at h
  omega
theorem isN_may (x : Int) (h : 0 ≤ x) : isN x = true ↔ (x ≤ 3 ∨ x = 9) := by
  unfold isN
  simp only [Bool.or_eq_true, beq_iff_eq, Bool.and_eq_true, decide_eq_true_eq]
  omega
theorem all_bytes {xs : List Int} (h : ∀ x ∈ xs, 0 ≤ x ∧ x ≤ 255) : (xs.all fun x => decide (0 ≤ x ∧ x ≤ 255)) = true := by
  rw [List.all_eq_true]
  intro x hx
  exact decide_eq_true (h x hx)
theorem dec_f (fs : List S28) (xs : List Int) (hf : fs.length ≤ 2400000000000) (hx : ∀ x ∈ xs, 0 ≤ x ∧ x ≤ 255) : sums_Decode.f fs xs = some (decR fs xs) := by
  unfold sums_Decode.f
  rw [if_pos ⟨hf, all_bytes hx⟩]
theorem enc_f (fs : List S28) (l : List S31) (hf : l.length ≤ 2400000000000) : sums_Encode.f fs l = some (encOut fs l, encErr fs l) := by
  unfold sums_Encode.f
  rw [if_pos hf]
/-- Functions and summaries of them. -/
structure Fit (fs : List S28) (l : List S31) : Prop where
  len : fs.length = l.length
  shp : fs.all shapeF = true
  rgt : (fs.zip l).all rightF = true
theorem Fit.err {fs : List S28} {l : List S31} (h : Fit fs l) : encErr fs l = 0 := by unfold encErr; rw [if_pos h.shp, if_pos h.len, if_pos h.rgt]
theorem Fit.out {fs : List S28} {l : List S31} (h : Fit fs l) : encOut fs l = bytesS l := by unfold encOut; rw [if_pos h.err]
theorem Fit.dec {fs : List S28} {l : List S31} (h : Fit fs l) (rest : List Int) : decL fs (bytesS l ++ rest) = some (l, rest) := (dec_forth fs l rest h.len h.shp h.rgt).1
theorem Fit.need {fs : List S28} {l : List S31} (h : Fit fs l) : (bytesS l).length = needs fs := (dec_forth fs l [] h.len h.shp h.rgt).2.1
theorem Fit.nums {fs : List S28} {l : List S31} (h : Fit fs l) : (bytesS l).all isN = true := (dec_forth fs l [] h.len h.shp h.rgt).2.2
theorem Fit.snoc {fs : List S28} {l : List S31} (h : Fit fs l) {f : S28} {s : S31} (hf : shapeF f = true) (hs : rightF (f, s) = true) : Fit (fs ++ [f]) (l ++ [s]) :=
  ⟨by rw [List.length_append, List.length_append, h.len]; rfl, by rw [List.all_append, h.shp]; simp [hf], by rw [List.zip_append h.len, List.all_append, h.rgt]; simp [hs]⟩
theorem Fit.small {fs : List S28} {l : List S31} (h : Fit fs l) : ∀ s ∈ l, SmallS s := by
  intro s hs
  obtain ⟨i, hi, rfl⟩ := List.getElem_of_mem hs
  have hr := h.rgt
  have hh := h.shp
  rw [List.all_eq_true] at hr hh
  have hfi : i < fs.length := by rw [h.len]; exact hi
  have h1 : (fs[i], l[i]) ∈ fs.zip l := by
    have := List.getElem_mem (l := fs.zip l) (n := i) (by rw [List.length_zip, h.len]; omega)
    rwa [List.getElem_zip] at this
  have h2 := hr _ h1
  have h3 := hh _ (List.getElem_mem hfi)
  obtain ⟨g1, g2, g3, g4⟩ := right_lens (S := l[i]) h2 h3
  refine ⟨by omega, by omega, fun r hr => ?_⟩
  obtain ⟨q, hq, rfl⟩ := List.getElem_of_mem hr
  have := g4 q hq
  omega
theorem needs_le : ∀ (fs : List S28), fs.all shapeF = true → needs fs ≤ 40 * fs.length
  | [], _ => by simp [needs]
  | f :: fs, h => by
    simp only [List.all_cons, Bool.and_eq_true] at h
    have ih := needs_le fs h.2
    have h1 := h.1
    simp only [shapeF, shapeS, Bool.and_eq_true, decide_eq_true_eq] at h1
    have : need f ≤ 40 := by
      unfold need
      have a : f.f0.toNat ≤ 8 := by omega
      have b : f.f1.toNat + 1 ≤ 5 := by omega
      exact Nat.le_trans (Nat.mul_le_mul a b) (by decide)
    have hn : needs (f :: fs) = need f + needs fs := by unfold needs; rw [List.map_cons, List.sum_cons]
    rw [hn, List.length_cons]
    omega
theorem dec_len {fs : List S28} {xs : List Int} {l : List S31} (hs : fs.all shapeF = true) (h : decL fs xs = some (l, [])) : xs.length = needs fs := by
  obtain ⟨_, _, h3, h4⟩ := dec_back fs xs l [] hs h
  rw [← h3, List.append_nil, h4]
theorem decR_more {fs : List S28} {l : List S31} (h : Fit fs l) (x : Int) : decR fs (bytesS l ++ [x]) = ([], 90) :=
  decR_no h.shp (fun l' e => by rw [h.dec] at e; simp at e)
theorem decR_self {fs : List S28} {l : List S31} (h : Fit fs l) : decR fs (bytesS l) = (l, 0) := decR_yes h.shp (by have := h.dec []; rwa [List.append_nil] at this)
theorem decR_less {fs : List S28} {l : List S31} (h : Fit fs l) (n : Nat) (hn : n < (bytesS l).length) : decR fs ((bytesS l).take n) = ([], 90) :=
  decR_no h.shp (fun l' e => by have := dec_len h.shp e; rw [← h.need, List.length_take] at this; omega)
theorem set_isN (xs : List Int) (i : Nat) (z : Int) (hi : i < xs.length) (h : xs.all isN = true) : (xs.set i z).all isN = isN z := by
  rw [Bool.eq_iff_iff, List.all_eq_true]
  rw [List.all_eq_true] at h
  constructor
  · intro hh
    exact hh z (List.mem_set hi z)
  · intro hz x hx
    rcases List.mem_or_eq_of_mem_set hx with h1 | h1
    · exact h x h1
    · rw [h1]; exact hz
theorem decR_may {fs : List S28} {l : List S31} (h : Fit fs l) (i : Nat) (z : Int) (hi : i < (bytesS l).length) (hz : isN z = true) : ∃ n, decR fs ((bytesS l).set i z) = (n, 0) ∧ Fit fs n ∧ bytesS n = (bytesS l).set i z := by
  obtain ⟨n, hn⟩ := dec_can fs ((bytesS l).set i z) h.shp (by rw [List.length_set, h.need]; exact Nat.le_refl _) (by rw [List.take_of_length_le (by rw [List.length_set, h.need]; exact Nat.le_refl _), set_isN _ _ _ hi h.nums, hz])
  rw [List.drop_eq_nil_of_le (by rw [List.length_set, h.need]; exact Nat.le_refl _)] at hn
  obtain ⟨e1, e2, e3, _⟩ := dec_back _ _ _ _ h.shp hn
  exact ⟨n, decR_yes h.shp hn, ⟨e1.symm, h.shp, e2⟩, by rw [← e3, List.append_nil]⟩
theorem decR_bad {fs : List S28} {l : List S31} (h : Fit fs l) (i : Nat) (z : Int) (hi : i < (bytesS l).length) (hz : isN z = false) : decR fs ((bytesS l).set i z) = ([], 90) :=
  decR_no h.shp (fun l' e => by
    obtain ⟨e1, e2, e3, _⟩ := dec_back _ _ _ _ h.shp e
    have hF : Fit fs l' := ⟨e1.symm, h.shp, e2⟩
    have := hF.nums
    rw [List.append_nil] at e3
    rw [e3, set_isN _ _ _ hi h.nums, hz] at this
    cases this)
/-- The law's end: encoded again. -/
theorem j3_no (fs : List S28) (c : List Int) (n : List S31) (hn : n.length ≤ 2400000000000) (hc : (encOut fs n).length ≤ 9223372036854775807) : Ev (fun k => fuguelaw09_SumsRounds.j3 k fs c n false false) true := by
  refine Ev.step (fun k => by rw [fuguelaw09_SumsRounds.j3, if_neg (by decide), enc_f fs n hn, Option.bind_some]) ?_
  exact Ev.bind (eqbytes_ev _ c hc) (by simpa using Ev.now true)
theorem j3_yes (fs : List S28) (c : List Int) (n : List S31) (hF : Fit fs n) (hb : bytesS n = c) (hn : n.length ≤ 2400000000000) (hc : c.length ≤ 9223372036854775807) : Ev (fun k => fuguelaw09_SumsRounds.j3 k fs c n true false) true := by
  refine Ev.step (fun k => by rw [fuguelaw09_SumsRounds.j3, if_neg (by decide), enc_f fs n hn, hF.out, hF.err, Option.bind_some]) ?_
  refine Ev.bind (eqbytes_ev (bytesS n) c (by rw [hb]; exact hc)) ?_
  simp only [if_true]
  rw [hb, beq_self_eq_true]
  exact Ev.now true
theorem j2_yes (fs : List S28) (c : List Int) (n : List S31) (hF : Fit fs n) (hb : bytesS n = c) (hn : n.length ≤ 2400000000000) (hc : c.length ≤ 9223372036854775807) : Ev (fun k => fuguelaw09_SumsRounds.j2 k fs 90 c n 0 true) true := by
  refine Ev.step (fun k => by rw [fuguelaw09_SumsRounds.j2, if_pos rfl, if_neg (by decide), if_pos rfl]) ?_
  exact j3_yes fs c n hF hb hn hc
theorem j2_no (fs : List S28) (c : List Int) : Ev (fun k => fuguelaw09_SumsRounds.j2 k fs 90 c [] 90 false) true := by
  refine Ev.step (fun k => by rw [fuguelaw09_SumsRounds.j2, if_pos rfl, if_neg (by decide), if_neg (by decide)]) ?_
  have hb : ((90 : Int) != 90) = false := by decide
  rw [hb]
  refine j3_no fs c [] (by simp) ?_
  unfold encOut
  split
  · simp [bytesS]
  · simp
theorem j1_ev (fs : List S28) (l : List S31) (h : Fit fs l) (hl : l.length ≤ 1600000000000) (a1 a2 : Int) (h0 : 0 ≤ a2) (h1 : a2 ≤ 255) : Ev (fun k => fuguelaw09_SumsRounds.j1 k a1 a2 fs (bytesS l) false) true := by
  have hbl : (bytesS l).length ≤ 64000000000000 := by
    have := needs_le fs h.shp
    rw [h.need]
    have := h.len
    omega
  have hfl : fs.length ≤ 2400000000000 := by rw [h.len]; omega
  have hB : ∀ x ∈ bytesS l, 0 ≤ x ∧ x ≤ 255 := fun x hx => isN_range (by have := h.nums; rw [List.all_eq_true] at this; exact this x hx)
  refine Ev.step (fun k => by rw [fuguelaw09_SumsRounds.j1, if_neg (by decide)]) ?_
  refine Ev.bind (copy_ev (bytesS l) (by omega)) ?_
  have d1 : sums_Decode.f fs (bytesS l ++ [a2]) = some ([], 90) := by
    rw [dec_f fs _ hfl (fun x hx => by
      rcases List.mem_append.1 hx with hx | hx
      · exact hB x hx
      · rw [List.mem_singleton] at hx; rw [hx]; exact ⟨h0, h1⟩), decR_more h]
  simp only [if_pos (show (bytesS l).length < 140737488355328 by omega), d1, Option.bind_some, if_true]
  by_cases hz : ((bytesS l).length : Int) = 0
  · simp only [if_pos hz]
    exact Ev.now true
  · have hw : wrap64 (((bytesS l).length : Int) - 1) = ((bytesS l).length : Int) - 1 := wrap_in (by omega) (by omega)
    obtain ⟨n, hn⟩ : ∃ n, n = (bytesS l).length - 1 := ⟨_, rfl⟩
    have hnt : (((bytesS l).length : Int) - 1).toNat = n := by omega
    have d2 : sums_Decode.f fs ((bytesS l).take n) = some ([], 90) := by rw [dec_f fs _ hfl (fun x hx => hB x (List.mem_of_mem_take hx)), decR_less h n (by omega)]
    simp only [if_neg hz, hw, if_pos (show (0 : Int) ≤ ((bytesS l).length : Int) - 1 by omega), if_pos (show ((bytesS l).length : Int) - 1 ≤ ((bytesS l).length : Int) by omega), hnt, d2, Option.bind_some]
    refine Ev.bind (copy_ev (bytesS l) (by omega)) ?_
    have g0 := Int.emod_nonneg a1 (show ((bytesS l).length : Int) ≠ 0 by omega)
    have g1 := Int.emod_lt_of_pos a1 (show (0 : Int) < ((bytesS l).length : Int) by omega)
    simp only [mod_f a1 ((bytesS l).length : Int) (by omega) (by omega), Option.bind_some, if_pos g0, if_pos g1]
    obtain ⟨i, hi⟩ : ∃ i, i = (a1 % ((bytesS l).length : Int)).toNat := ⟨_, rfl⟩
    have hil : i < (bytesS l).length := by omega
    rw [← hi]
    have hS : ∀ x ∈ (bytesS l).set i a2, 0 ≤ x ∧ x ≤ 255 := fun x hx => by
      rcases List.mem_or_eq_of_mem_set hx with hx | hx
      · exact hB x hx
      · rw [hx]; exact ⟨h0, h1⟩
    have hsl : ((bytesS l).set i a2).length ≤ 9223372036854775807 := by rw [List.length_set]; omega
    cases hN : isN a2 with
    | true =>
      obtain ⟨m, e1, e2, e3⟩ := decR_may h i a2 hil hN
      have d3 : sums_Decode.f fs ((bytesS l).set i a2) = some (m, 0) := by rw [dec_f fs _ hfl hS, e1]
      simp only [d3, Option.bind_some]
      have hm := (isN_may a2 h0).1 hN
      have fin : Ev (fun k => fuguelaw09_SumsRounds.j2 k fs 90 ((bytesS l).set i a2) m 0 true) true := j2_yes fs _ m e2 e3 (by rw [← e2.len]; omega) hsl
      by_cases h3 : a2 ≤ 3
      · simp only [if_pos h3]
        exact fin
      · simp only [if_neg h3]
        rw [show (a2 == 9) = true from by rw [beq_iff_eq]; omega]
        exact fin
    | false =>
      have d3 : sums_Decode.f fs ((bytesS l).set i a2) = some ([], 90) := by rw [dec_f fs _ hfl hS, decR_bad h i a2 hil hN]
      simp only [d3, Option.bind_some]
      have hm : ¬ (a2 ≤ 3 ∨ a2 = 9) := fun e => by rw [← isN_may a2 h0, hN] at e; cases e
      simp only [if_neg (show ¬ a2 ≤ 3 by omega)]
      rw [show (a2 == 9) = false from by rw [beq_eq_false_iff_ne]; omega]
      exact j2_no fs _
theorem rdT_get (xs : List S24) (i : Nat) (h : i < xs.length) : rd_T24 xs (i : Int) = xs[i] := by unfold rd_T24; rw [Int.toNat_natCast, List.getD_eq_getElem?_getD, List.getElem?_eq_getElem h]; rfl
theorem rounds_l0 (l0 : List S24) (hl : l0.length ≤ 1600000000000) (hw : ∀ x ∈ l0, x.f2.length ≤ 9223372036854775807) (a1 a2 : Int) (h0 : 0 ≤ a2) (h1 : a2 ≤ 255) :
    ∀ (d i : Nat) (fs : List S28) (l : List S31), l0.length - i = d → i ≤ l0.length → l.length = i → Fit fs l → Ev (fun k => fuguelaw09_SumsRounds.l0 k l0 a1 a2 true fs l (i : Int)) true := by
  intro d
  induction d with
  | zero =>
    intro i fs l hd hi hll hF
    have hfl : fs.length ≤ 2400000000000 := by rw [hF.len]; omega
    have d0 : sums_Decode.f fs (bytesS l) = some (l, 0) := by
      rw [dec_f fs _ hfl (fun x hx => isN_range (by have := hF.nums; rw [List.all_eq_true] at this; exact this x hx)), decR_self hF]
    refine Ev.step (fun k => by rw [fuguelaw09_SumsRounds.l0, if_neg (by omega), enc_f fs l (by omega), hF.out, hF.err, Option.bind_some, d0, Option.bind_some]) ?_
    refine Ev.bind (eqsums_self l (by omega) hF.small) ?_
    simp only [if_true, Bool.not_true]
    exact j1_ev fs l hF (by omega) a1 a2 h0 h1
  | succ d ih =>
    intro i fs l hd hi hll hF
    have hx : i < l0.length := by omega
    have e1 : rd_T24 l0 (i : Int) = l0[i] := rdT_get l0 i hx
    obtain ⟨k0, h, rs, hk0, hr⟩ := shaped_ok l0[i].f0 l0[i].f1 l0[i].f2 (hw _ (List.getElem_mem hx))
    refine Ev.step (fun k => by rw [fuguelaw09_SumsRounds.l0, if_pos (by omega), if_pos (by omega), e1]) ?_
    refine Ev.bind (Ev.of (fun k => fuguelaw09_shaped.mono _ _ _ k) hk0) ?_
    have hfl := hF.len
    simp only [if_pos (show fs.length < 2932031007402 by omega), if_pos (show l.length < 2932031007402 by omega), wrap_in (show (-9223372036854775808 : Int) ≤ (i : Int) + 1 by omega) (show (i : Int) + 1 ≤ 9223372036854775807 by omega)]
    exact ih (i + 1) _ _ (by omega) (by omega) (by rw [List.length_append, hll]; rfl) (hF.snoc (shape_mod _ _) hr)
theorem rounds_pure (l0 : List S24) (hl : l0.length ≤ 1600000000000) (hw : ∀ x ∈ l0, x.f2.length ≤ 9223372036854775807) (a1 a2 : Int) (h0 : 0 ≤ a2) (h1 : a2 ≤ 255) : ∃ k, fuguelaw09_SumsRounds.f k l0 a1 a2 = some true := by
  refine Ev.rounds (g := fun k => fuguelaw09_SumsRounds.f k l0 a1 a2) ?_
  unfold fuguelaw09_SumsRounds.f fuguelaw09_fixed.f
  simp only [Option.bind_some]
  exact rounds_l0 l0 hl hw a1 a2 h0 h1 l0.length 0 [] [] (by omega) (by omega) rfl ⟨rfl, rfl, rfl⟩
end Go.Proofs.Ytgemcomcjojjbaa.PS
