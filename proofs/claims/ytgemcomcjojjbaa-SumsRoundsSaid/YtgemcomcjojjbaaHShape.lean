/- What shaped of package fuguelaw09 makes is right; what EqSummary of package fugueref00 answers. No conditions. -/
import Derived.Test.YtgemcomcjojjbaaPSx5
import Derived.Test.YtgemcomcjojjbaaPSx7
import Derived.Test.YtgemcomcjojjbaaHEnc
namespace Go.Proofs.Ytgemcomcjojjbaa.PS
open Go.RowKit Go.Proofs.YtgemcomcjojjbaaW.PrintWords Go.Proofs.YtgemcomcjojjbaaW.PrintLast Go.Proofs.YtgemcomcjojjbaaW.PrintMore
set_option linter.unusedVariables false
set_option linter.unusedSimpArgs false

theorem mod_f (a n : Int) (h : 0 < n) (h2 : n ≤ 4611686018427387904) : fuguelaw09_mod.f a n = some (a % n) := by
  unfold fuguelaw09_mod.f
  rw [if_neg (by omega)]
  have h3 := Int.emod_nonneg a (show n ≠ 0 by omega)
  have h4 := Int.emod_lt_of_pos a h
  have h5 : Int.tmod a n = a % n ∨ Int.tmod a n = a % n - n := by
    rw [Int.tmod_eq_emod]; split
    · simp
    · right; omega
  by_cases h6 : Int.tmod a n < 0
  · rw [if_pos h6, wrap_in (by omega) (by omega)]
    congr 1; omega
  · rw [if_neg h6]
    congr 1; omega
def Good (P R : Int) (o : Int × Int × Int × List S102 × List Int × List (List Int)) : Prop := ∃ h rs, o = (P, R, 0, [], h, rs) ∧ rightS P R ⟨h, rs⟩ = true
theorem isN_mod (a : Int) : isN (a % 5) = true ∨ a % 5 = 4 := by
  have h3 := Int.emod_nonneg a (show (5 : Int) ≠ 0 by omega)
  have h4 := Int.emod_lt_of_pos a (show (0 : Int) < 5 by omega)
  by_cases h : a % 5 = 4
  · exact .inr h
  · left
    unfold isN
    rw [decide_eq_true (show 0 ≤ a % 5 by omega), decide_eq_true (show a % 5 ≤ 3 by omega)]
    simp
theorem all_snoc (xs : List Int) (x : Int) (h : xs.all isN = true) (hx : isN x = true) : (xs ++ [x]).all isN = true := by
  rw [List.all_append, h]
  simp [hx]
theorem l0_in (k : Nat) (x2 : List Int) (x10 x11 a b c : Int) (x : List Int) (y : List (List Int)) (h : x11 < a) : fuguelaw09_shaped.l0 (k + 1) x2 x10 x11 a b c x y = fuguelaw09_shaped.l1 k x2 x10 x11 [] 0 a b c x y := by
  rw [fuguelaw09_shaped.l0, if_pos h]
theorem l0_out (k : Nat) (x2 : List Int) (x10 x11 a b c : Int) (x : List Int) (y : List (List Int)) (h : ¬ x11 < a) : fuguelaw09_shaped.l0 (k + 1) x2 x10 x11 a b c x y = some (a, b, c, [], x, y) := by
  rw [fuguelaw09_shaped.l0, if_neg h]
theorem l1_out (k : Nat) (x2 : List Int) (x10 x11 : Int) (t : List Int) (j a b c : Int) (x : List Int) (y : List (List Int)) (h : ¬ j ≤ b) (h1 : 0 < (t.length : Int)) (h2 : x.length < 17592186044416) (h3 : 1 ≤ (t.length : Int)) (h4 : y.length < 5864062014805) : fuguelaw09_shaped.l1 (k + 1) x2 x10 x11 t j a b c x y = fuguelaw09_shaped.l0 k x2 x10 (wrap64 (x11 + 1)) a b c (x ++ [rd t 0]) (y ++ [t.drop 1]) := by
  rw [fuguelaw09_shaped.l1, if_neg h, if_pos h1, if_pos h2, if_pos h3, if_pos h4]
theorem l1_nil (k : Nat) (x2 : List Int) (x10 x11 : Int) (t : List Int) (j a b c : Int) (x : List Int) (y : List (List Int)) (h : j ≤ b) (h1 : ¬ (x2.length : Int) > 0) (h2 : t.length < 17592186044416) : fuguelaw09_shaped.l1 (k + 1) x2 x10 x11 t j a b c x y = fuguelaw09_shaped.l1 k x2 (wrap64 (x10 + 1)) x11 (t ++ [9]) (wrap64 (j + 1)) a b c x y := by
  rw [fuguelaw09_shaped.l1, if_pos h, if_neg h1, if_neg (show ¬ ((9 : Nat) = 4) by decide), if_pos h2]
theorem l1_next (k : Nat) (x2 : List Int) (x10 x11 : Int) (t : List Int) (j a b c : Int) (x : List Int) (y : List (List Int)) (h : j ≤ b) (h1 : (x2.length : Int) > 0) (h2 : t.length < 17592186044416) (h3 : 0 ≤ x10) : ∃ z : Int, isN z = true ∧ ∀ k, fuguelaw09_shaped.l1 (k + 1) x2 x10 x11 t j a b c x y = fuguelaw09_shaped.l1 k x2 (wrap64 (x10 + 1)) x11 (t ++ [z]) (wrap64 (j + 1)) a b c x y := by
  have hn0 : 0 ≤ Int.tmod x10 (x2.length : Int) := Int.tmod_nonneg _ h3
  have hn1 : Int.tmod x10 (x2.length : Int) < x2.length := Int.tmod_lt_of_pos _ h1
  have hq : ¬ ((x2.length : Int) = 0) := by omega
  obtain ⟨z, hzz⟩ : ∃ z, z = wrap64 ((rd x2 (Int.tmod x10 (x2.length : Int))) + (wrap64 (Int.tdiv x10 (x2.length : Int)))) := ⟨_, rfl⟩
  by_cases h5 : z % 5 = 4
  · refine ⟨9, rfl, fun k => ?_⟩
    rw [fuguelaw09_shaped.l1, if_pos h, if_pos h1, if_neg hq, if_pos hn0, if_pos hn1, ← hzz, mod_f _ 5 (by omega) (by omega), Option.bind_some, if_pos h5, if_pos h2]
  · refine ⟨z % 5, (isN_mod z).resolve_right h5, fun k => ?_⟩
    rw [fuguelaw09_shaped.l1, if_pos h, if_pos h1, if_neg hq, if_pos hn0, if_pos hn1, ← hzz, mod_f _ 5 (by omega) (by omega), Option.bind_some, if_neg h5, if_pos h2]
theorem shaped_l1 (l : List Int) (hl : l.length ≤ 9223372036854775807) (P R : Int) (hR0 : 0 ≤ R) (hR : R ≤ 4) (x11 : Int) (hs : List Int) (rs : List (List Int)) (hsl : hs.length ≤ 8) (rsl : rs.length ≤ 8) (lim : Int) (hlim : lim ≤ 1000)
    (H : ∀ (x10 : Int) (t : List Int), 0 ≤ x10 → x10 ≤ lim → (t.length : Int) = R + 1 → t.all isN = true → ∃ o, Ev (fun k => fuguelaw09_shaped.l0 k l x10 (wrap64 (x11 + 1)) P R 0 (hs ++ [rd t 0]) (rs ++ [t.drop 1])) o ∧ Good P R o) :
    ∀ (d : Nat) (j : Nat) (x10 : Int) (t : List Int), (R + 1 - j).toNat = d → (j : Int) ≤ R + 1 → 0 ≤ x10 → x10 + d ≤ lim → t.length = j → t.all isN = true → ∃ o, Ev (fun k => fuguelaw09_shaped.l1 k l x10 x11 t (j : Int) P R 0 hs rs) o ∧ Good P R o := by
  intro d
  induction d with
  | zero =>
    intro j x10 t hd hj h0 hx ht ha
    obtain ⟨o, ho, hg⟩ := H x10 t h0 (by omega) (by omega) ha
    exact ⟨o, Ev.step (fun k => l1_out k _ _ _ _ _ _ _ _ _ _ (by omega) (by omega) (by omega) (by omega) (by omega)) ho, hg⟩
  | succ d ih =>
    intro j x10 t hd hj h0 hx ht ha
    have hw1 : Aside0 (wrap64 (x10 + 1) = x10 + 1) := ⟨wrap_in (by omega) (by omega)⟩
    have hw2 : Aside0 (wrap64 ((j : Int) + 1) = ((j + 1 : Nat) : Int)) := ⟨(wrap_in (x := (j : Int) + 1) (by omega) (by omega)).trans (by omega)⟩
    have hA : (j : Int) ≤ R := by omega
    have hB : t.length < 17592186044416 := by omega
    have key : ∃ z : Int, isN z = true ∧ ∀ k, fuguelaw09_shaped.l1 (k + 1) l x10 x11 t (j : Int) P R 0 hs rs = fuguelaw09_shaped.l1 k l (x10 + 1) x11 (t ++ [z]) ((j + 1 : Nat) : Int) P R 0 hs rs := by
      by_cases hz : l.length = 0
      · refine ⟨9, rfl, fun k => ?_⟩
        rw [l1_nil k _ _ _ _ _ _ _ _ _ _ hA (by omega) hB, hw1.out, hw2.out]
      · obtain ⟨z, h1, h2⟩ := l1_next 0 l x10 x11 t (j : Int) P R 0 hs rs hA (by omega) hB h0
        refine ⟨z, h1, fun k => ?_⟩
        rw [h2 k, hw1.out, hw2.out]
    obtain ⟨z, hz1, hz2⟩ := key
    obtain ⟨o, ho, hg⟩ := ih (j + 1) (x10 + 1) (t ++ [z]) (by omega) (by omega) (by omega) (by omega) (by simp [ht]) (all_snoc t z ha hz1)
    exact ⟨o, Ev.step hz2 ho, hg⟩
theorem rd_isN (t : List Int) (h : t.all isN = true) (hl : 0 < t.length) : isN (rd t 0) = true := by
  cases t with
  | nil => simp at hl
  | cons x t =>
    rw [List.all_cons, Bool.and_eq_true] at h
    exact h.1
theorem shaped_l0 (l : List Int) (hl : l.length ≤ 9223372036854775807) (P R : Int) (hP : P ≤ 8) (hR0 : 0 ≤ R) (hR : R ≤ 4) : ∀ (d i : Nat) (x10 : Int) (hs : List Int) (rs : List (List Int)), (P - i).toNat = d → (i : Int) ≤ P → 0 ≤ x10 → x10 ≤ 10 * i → hs.length = i → rs.length = i → hs.all isN = true → rs.all (rowN R) = true → ∃ o, Ev (fun k => fuguelaw09_shaped.l0 k l x10 (i : Int) P R 0 hs rs) o ∧ Good P R o := by
  intro d
  induction d with
  | zero =>
    intro i x10 hs rs hd hi h0 hx hh hr ha hb
    refine ⟨_, Ev.step (fun k => l0_out k _ _ _ _ _ _ _ _ (by omega)) (Ev.now _), hs, rs, rfl, ?_⟩
    · unfold rightS
      rw [decide_eq_true (show ((hs.length : Int)) = P by omega), decide_eq_true (show ((rs.length : Int)) = P by omega), ha, hb]
      rfl
  | succ d ih =>
    intro i x10 hs rs hd hi h0 hx hh hr ha hb
    have hw : Aside0 (wrap64 ((i : Int) + 1) = ((i + 1 : Nat) : Int)) := ⟨(wrap_in (x := (i : Int) + 1) (by omega) (by omega)).trans (by omega)⟩
    obtain ⟨o, ho, hg⟩ := shaped_l1 l hl P R hR0 hR (i : Int) hs rs (by omega) (by omega) (10 * (i + 1 : Nat)) (by omega) (fun x t hx0 hxl htl hta => by
      rw [hw.out]
      refine ih (i + 1) x (hs ++ [rd t 0]) (rs ++ [t.drop 1]) (by omega) (by omega) hx0 hxl (by simp [hh]) (by simp [hr]) (all_snoc hs _ ha (rd_isN t hta (by omega))) ?_
      rw [List.all_append, hb]
      have h1 : (t.drop 1).all isN = true := by
        rw [List.all_eq_true] at hta ⊢
        exact fun x hx => hta x (List.mem_of_mem_drop hx)
      have h2 : ((t.drop 1).length : Int) = R := by rw [List.length_drop]; omega
      rw [List.all_cons, List.all_nil]
      unfold rowN
      rw [h1, decide_eq_true h2]
      rfl) ((R + 1 - (0 : Nat)).toNat) 0 x10 [] rfl (by omega) h0 (by omega) rfl rfl
    exact ⟨o, Ev.step (fun k => l0_in k _ _ _ _ _ _ _ _ (by omega)) ho, hg⟩
/-- What shaped makes. -/
theorem shaped_ok (p r : Int) (l : List Int) (hl : l.length ≤ 9223372036854775807) : ∃ k h rs, fuguelaw09_shaped.f k p r l = some (p % 9, r % 5, 0, [], h, rs) ∧ rightS (p % 9) (r % 5) ⟨h, rs⟩ = true := by
  have h1 := Int.emod_nonneg p (show (9 : Int) ≠ 0 by omega)
  have h2 := Int.emod_lt_of_pos p (show (0 : Int) < 9 by omega)
  have h3 := Int.emod_nonneg r (show (5 : Int) ≠ 0 by omega)
  have h4 := Int.emod_lt_of_pos r (show (0 : Int) < 5 by omega)
  obtain ⟨o, ho, h, rs, rfl, hg⟩ := shaped_l0 l hl (p % 9) (r % 5) (by omega) h3 (by omega) (p % 9 - (0 : Nat)).toNat 0 0 [] [] rfl (by omega) (by omega) (by omega) rfl rfl rfl rfl
  obtain ⟨k, hk⟩ := ho.rounds
  refine ⟨k, h, rs, ?_, hg⟩
  unfold fuguelaw09_shaped.f
  rw [mod_f _ _ (by omega) (by omega), mod_f _ _ (by omega) (by omega)]
  exact hk
theorem shape_mod (p r : Int) : shapeS (p % 9) (r % 5) = true := by
  have h1 := Int.emod_nonneg p (show (9 : Int) ≠ 0 by omega)
  have h2 := Int.emod_lt_of_pos p (show (0 : Int) < 9 by omega)
  have h3 := Int.emod_nonneg r (show (5 : Int) ≠ 0 by omega)
  have h4 := Int.emod_lt_of_pos r (show (0 : Int) < 5 by omega)
  unfold shapeS
  rw [decide_eq_true h1, decide_eq_true (show p % 9 ≤ 8 by omega), decide_eq_true h3, decide_eq_true (show r % 5 ≤ 4 by omega)]
  rfl
end Go.Proofs.Ytgemcomcjojjbaa.PS
