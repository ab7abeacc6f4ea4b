/- What the small parts of the laws of weigh answer: fixed is true, mod is the remainder, right gives a right graph. No conditions but sizes. -/
import Derived.Test.YtmjdiiockddalaaPWx3
import Derived.Test.YtmjdiiockddalaaPWx4
import Derived.Test.YtmjdiiockddalaaHSol
namespace Go.Proofs.Ytmjdiiockddalaa.PW
open Go.RowKit Go.Maps Go.Proofs.YtmjdiiockddalaaW.PrintWords Go.Proofs.YtmjdiiockddalaaW.PrintLast Go.Proofs.YtmjdiiockddalaaW.PrintMore
set_option linter.unusedVariables false
set_option linter.unusedSimpArgs false

/-! what the document tells of a small graph -/
theorem from_small : weigh_From.f 4 [(⟨0, 1, 0⟩ : S41), ⟨1, 2, 1⟩, ⟨2, 3, -1⟩] [0] = some ([0, 0, 1, 0], 0) := by decide +kernel
theorem eqints_l0 (xs ys : List Int) (h : xs.length = ys.length) (hl : xs.length ≤ 9223372036854775807) : ∀ (d i : Nat), xs.length - i = d → i ≤ xs.length → Ev (fun k => fugueref00_EqInts.l0 k xs ys (i : Int)) (xs.drop i == ys.drop i) := by
  intro d
  induction d with
  | zero =>
    intro i hd hi
    refine Ev.step (f := fun _ => some true) (fun k => by simp only [fugueref00_EqInts.l0]; rw [if_neg (by omega)]) ?_
    rw [List.drop_eq_nil_of_le (by omega), List.drop_eq_nil_of_le (by omega)]
    exact Ev.now _
  | succ d ih =>
    intro i hd hi
    have hx : i < xs.length := by omega
    have hy : i < ys.length := by omega
    have e1 : rd xs (i : Int) = xs[i] := by unfold rd; rw [Int.toNat_natCast, List.getD_eq_getElem?_getD, List.getElem?_eq_getElem hx]; rfl
    have e2 : rd ys (i : Int) = ys[i] := by unfold rd; rw [Int.toNat_natCast, List.getD_eq_getElem?_getD, List.getElem?_eq_getElem hy]; rfl
    refine Ev.step (fun k => by simp only [fugueref00_EqInts.l0]; rw [if_pos (by omega), if_pos (by omega), if_pos (by omega), e1, e2, wrap_in (by omega) (by omega)]) ?_
    rw [List.drop_eq_getElem_cons hx, List.drop_eq_getElem_cons hy, List.cons_beq_cons]
    by_cases he : xs[i] = ys[i]
    · simp only [if_pos he]
      rw [beq_iff_eq.2 he, Bool.true_and]
      exact ih (i + 1) (by omega) (by omega)
    · simp only [if_neg he]
      rw [beq_eq_false_iff_ne.2 he, Bool.false_and]
      exact Ev.now _
theorem eqints_ev (xs ys : List Int) (hl : xs.length ≤ 9223372036854775807) : Ev (fun k => fugueref00_EqInts.f k xs ys) (xs == ys) := by
  unfold fugueref00_EqInts.f
  by_cases h : xs.length = ys.length
  · simp only [if_pos (show (xs.length : Int) = (ys.length : Int) by omega)]
    simpa using eqints_l0 xs ys h hl xs.length 0 (by omega) (by omega)
  · simp only [if_neg (show ¬ (xs.length : Int) = (ys.length : Int) by omega)]
    rw [beq_eq_false_iff_ne.2 (fun he => h (by rw [he]))]
    exact Ev.now _
theorem fixed_ev : Ev (fun k => fuguelaw06_fixed.f k) true := by
  unfold fuguelaw06_fixed.f
  refine Ev.bind (a := ([0, 0, 1, 0], 0)) (Ev.congr (fun _ => from_small) (Ev.now _)) ?_
  refine Ev.bind (eqints_ev [0, 0, 1, 0] [0, 0, 1, 0] (by simp)) ?_
  exact Ev.now _
theorem fixed_any (W : World) : Calls Try.prog 10 #[] W fun e w' => e = .returned (.bool true) ∧ Below W.heap.size W w' := by
  obtain ⟨k, h⟩ := fixed_ev.rounds
  exact fuguelaw06_fixed.calls k true W h


theorem weigh_weight_f (d : Int) : weigh_weight.f d = some (wt d) := by unfold weigh_weight.f wt; split <;> (try split) <;> rfl
theorem wt_or (d : Int) : wt d = 9 ∨ (-1 ≤ wt d ∧ wt d ≤ 3) := by unfold wt; (repeat' split) <;> omega
theorem weigh_Plus_f (d x : Int) : weigh_Plus.f d x = some (plus d x) := by
  unfold weigh_Plus.f plus
  rw [weigh_weight_f, weigh_weight_f]
  simp only [Option.bind_some]
  have h1 := wt_or d
  have h2 := wt_or x
  by_cases h3 : wt d = 9
  · rw [if_pos h3, if_pos h3]
  · by_cases h4 : wt x = 9
    · rw [if_neg h3, if_neg h3, if_pos h4, if_pos h4]
    · rw [if_neg h3, if_neg h3, if_neg h4, if_neg h4]
      rw [wrap_in (by unfold mx; split <;> omega) (by unfold mx; split <;> omega)]
theorem mod_f (a n : Int) (h : 0 < n) (h2 : n ≤ 4611686018427387904) : fuguelaw06_mod.f a n = some (a % n) := by
  unfold fuguelaw06_mod.f
  rw [if_neg (by omega)]
  have h3 := Int.emod_nonneg a (show n ≠ 0 by omega)
  have h4 := Int.emod_lt_of_pos a h
  have h5 : Int.tmod a n = a % n ∨ Int.tmod a n = a % n - n := by
    rw [Int.tmod_eq_emod]; split
    · simp
    · right; omega
  by_cases h6 : Int.tmod a n < 0
  · rw [if_pos h6, wrap_in (by omega) (by omega)]
    congr 1; omega
  · rw [if_neg h6]
    congr 1; omega
def redge (n : Int) (e : S41) : S41 := ⟨e.f0 % n, e.f1 % n, e.f2 % 5 - 1⟩
theorem rd_get (xs : List Int) (i : Nat) (h : i < xs.length) : rd xs (i : Int) = xs[i] := by unfold rd; rw [Int.toNat_natCast, List.getD_eq_getElem?_getD, List.getElem?_eq_getElem h]; rfl
theorem rd41_get (xs : List S41) (i : Nat) (h : i < xs.length) : rd_T41 xs (i : Int) = xs[i] := by unfold rd_T41; rw [Int.toNat_natCast, List.getD_eq_getElem?_getD, List.getElem?_eq_getElem h]; rfl
theorem right_l1 (n : Int) (hn : 0 < n) (hn2 : n ≤ 40) (g0 : Int) (es : List S41) (rs : List Int) (hr : rs.length < 17592186044416) (m : Int) (E : List S41) : ∀ (d i : Nat) (acc : List Int), rs.length - i = d → i ≤ rs.length → acc.length = i → Ev (fun k => fuguelaw06_right.l1 k n (i : Int) g0 es rs m E acc) (m, E, acc ++ (rs.drop i).map (· % n)) := by
  intro d
  induction d with
  | zero =>
    intro i acc hd hi ha
    refine Ev.step (f := fun _ => some (m, E, acc)) (fun k => by simp only [fuguelaw06_right.l1]; rw [if_neg (by omega)]) ?_
    rw [List.drop_eq_nil_of_le (by omega), List.map_nil, List.append_nil]
    exact Ev.now _
  | succ d ih =>
    intro i acc hd hi ha
    have hx : i < rs.length := by omega
    refine Ev.step (f := fun k => fuguelaw06_right.l1 k n ((i + 1 : Nat) : Int) g0 es rs m E (acc ++ [rs[i] % n])) (fun k => by
      simp only [fuguelaw06_right.l1]
      rw [if_pos (by omega), if_pos (by omega), rd_get rs i hx, mod_f _ _ hn (by omega), Option.bind_some, if_pos (by omega), wrap_in (by omega) (by omega)]
      rfl) ?_
    have := ih (i + 1) (acc ++ [rs[i] % n]) (by omega) (by omega) (by simp [ha])
    rw [List.drop_eq_getElem_cons hx, List.map_cons]
    simpa using this
theorem right_l0 (n : Int) (hn : 0 < n) (hn2 : n ≤ 40) (g0 : Int) (es : List S41) (rs : List Int) (he : es.length < 5864062014805) (hr : rs.length < 17592186044416) (m : Int) : ∀ (d i : Nat) (acc : List S41), es.length - i = d → i ≤ es.length → acc.length = i → Ev (fun k => fuguelaw06_right.l0 k n (i : Int) g0 es rs m acc) (m, acc ++ (es.drop i).map (redge n), rs.map (· % n)) := by
  intro d
  induction d with
  | zero =>
    intro i acc hd hi ha
    refine Ev.step (f := fun k => fuguelaw06_right.l1 k n 0 g0 es rs m acc []) (fun k => by simp only [fuguelaw06_right.l0]; rw [if_neg (by omega)]) ?_
    rw [List.drop_eq_nil_of_le (by omega), List.map_nil, List.append_nil]
    have := right_l1 n hn hn2 g0 es rs hr m acc rs.length 0 [] (by omega) (by omega) rfl
    simpa using this
  | succ d ih =>
    intro i acc hd hi ha
    have hx : i < es.length := by omega
    refine Ev.step (f := fun k => fuguelaw06_right.l0 k n ((i + 1 : Nat) : Int) g0 es rs m (acc ++ [redge n es[i]])) (fun k => by
      simp only [fuguelaw06_right.l0]
      rw [if_pos (by omega), if_pos (by omega), rd41_get es i hx, mod_f _ _ hn (by omega), mod_f _ _ hn (by omega), mod_f _ 5 (by omega) (by omega)]
      simp only [Option.bind_some]
      have h3 := Int.emod_nonneg es[i].f2 (show (5 : Int) ≠ 0 by omega)
      have h4 := Int.emod_lt_of_pos es[i].f2 (show (0 : Int) < 5 by omega)
      rw [if_pos (by omega), wrap_in (by omega) (by omega), wrap_in (by omega) (by omega)]
      rfl) ?_
    have := ih (i + 1) (acc ++ [redge n es[i]]) (by omega) (by omega) (by simp [ha])
    rw [List.drop_eq_getElem_cons hx, List.map_cons]
    simpa using this
/-- right: 1 to 40 locations, edges and roots of them. -/
theorem right_ev (a : Int) (es : List S41) (rs : List Int) (he : es.length < 5864062014805) (hr : rs.length < 17592186044416) : Ev (fun k => fuguelaw06_right.f k a es rs) (1 + a % 40, es.map (redge (1 + a % 40)), rs.map (· % (1 + a % 40))) := by
  have h3 := Int.emod_nonneg a (show (40 : Int) ≠ 0 by omega)
  have h4 := Int.emod_lt_of_pos a (show (0 : Int) < 40 by omega)
  unfold fuguelaw06_right.f
  simp only [mod_f _ 40 (by omega) (by omega), Option.bind_some]
  rw [wrap_in (by omega) (by omega)]
  have := right_l0 (1 + a % 40) (by omega) (by omega) a es rs he hr (1 + a % 40) es.length 0 [] (by omega) (by omega) rfl
  simpa using this
theorem right_good (n : Nat) (hn : 0 < n) (es : List S41) (rs : List Int) : Good n (es.map (redge n)) (rs.map (· % (n : Int))) := by
  have h0 : ∀ x : Int, 0 ≤ x % n ∧ x % n < n := fun x => ⟨Int.emod_nonneg x (by omega), Int.emod_lt_of_pos x (by omega)⟩
  refine ⟨fun e he => ?_, fun r hr => ?_⟩
  · obtain ⟨x, _, rfl⟩ := List.mem_map.1 he
    have h1 := h0 x.f0
    have h2 := h0 x.f1
    have h3 := Int.emod_nonneg x.f2 (show (5 : Int) ≠ 0 by omega)
    have h4 := Int.emod_lt_of_pos x.f2 (show (0 : Int) < 5 by omega)
    refine ⟨h1.1, h1.2, h2.1, h2.2, ?_, ?_⟩ <;> simp only [redge] <;> omega
  · obtain ⟨x, _, rfl⟩ := List.mem_map.1 hr
    exact h0 x
/-- The graph that right gives, and its weights. -/
theorem right_all (a : Int) (es : List S41) (rs : List Int) (he : es.length < 5864062014805) (hr : rs.length < 17592186044416) :
    ∃ (n : Nat) (E : List S41) (R b : List Int), 1 ≤ n ∧ n ≤ 40 ∧ (n : Int) = 1 + a % 40 ∧ E.length = es.length ∧ R.length = rs.length ∧ Good n E R ∧ Ev (fun k => fuguelaw06_right.f k a es rs) ((n : Int), E, R) ∧ weigh_From.f n E R = some (b, 0) ∧ Sol n E R b := by
  have h3 := Int.emod_nonneg a (show (40 : Int) ≠ 0 by omega)
  have h4 := Int.emod_lt_of_pos a (show (0 : Int) < 40 by omega)
  obtain ⟨n, hn⟩ := Int.eq_ofNat_of_zero_le (show 0 ≤ 1 + a % 40 by omega)
  have hg := right_good n (by omega) es rs
  obtain ⟨b, hf, hs⟩ := from_good_f (n := n) (by omega) (by simpa using he) hg
  refine ⟨n, _, _, b, by omega, by omega, hn.symm, by simp, by simp, hg, ?_, hf, hs⟩
  rw [← hn]
  exact right_ev a es rs he hr
end Go.Proofs.Ytmjdiiockddalaa.PW
