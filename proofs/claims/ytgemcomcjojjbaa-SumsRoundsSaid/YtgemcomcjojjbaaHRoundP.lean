/- Bytes of summaries, there and back: plain lists. No conditions. -/
import Derived.Test.YtgemcomcjojjbaaHReadD
import Derived.Test.YtgemcomcjojjbaaHEqS
namespace Go.Proofs.Ytgemcomcjojjbaa.PS
open Go.RowKit Go.Proofs.YtgemcomcjojjbaaW.PrintWords Go.Proofs.YtgemcomcjojjbaaW.PrintLast Go.Proofs.YtgemcomcjojjbaaW.PrintMore
set_option linter.unusedVariables false
set_option linter.unusedSimpArgs false

theorem isN_byte {d : Int} (h : isN d = true) : byteI d = d := by
  unfold isN at h
  unfold byteI
  simp only [Bool.or_eq_true, beq_iff_eq, Bool.and_eq_true, decide_eq_true_eq] at h
  omega
theorem all_byte : ∀ (l : List Int), l.all isN = true → l.map byteI = l
  | [], _ => rfl
  | d :: l, h => by
    simp only [List.all_cons, Bool.and_eq_true] at h
    rw [List.map_cons, isN_byte h.1, all_byte l h.2]
theorem rd_app (pre ys : List Int) (i : Nat) : rd (pre ++ ys) ((pre.length + i : Nat) : Int) = rd ys (i : Int) := by
  unfold rd
  rw [Int.toNat_natCast, Int.toNat_natCast, List.getD_eq_getElem?_getD, List.getD_eq_getElem?_getD, List.getElem?_append_right (by omega)]
  congr 2
  omega
theorem hd_split {m : Nat} (hm : 0 < m) (pre ys : List Int) (hp : pre.length = m) (q : Nat) : headsR m (pre ++ ys) (q + 1) = rd pre 0 :: headsR m ys q := by
  unfold headsR
  rw [List.range_succ_eq_map, List.map_cons, List.map_map]
  congr 1
  · unfold rd
    rw [Nat.zero_mul, Int.toNat_natCast, List.getD_eq_getElem?_getD, List.getD_eq_getElem?_getD, List.getElem?_append_left (by omega)]
    rfl
  · refine List.map_congr_left fun i _ => ?_
    show rd (pre ++ ys) (((i + 1) * m : Nat) : Int) = _
    rw [show (i + 1) * m = pre.length + i * m by rw [hp, Nat.succ_mul]; omega, rd_app]
theorem tl_split {m : Nat} (hm : 0 < m) (pre ys : List Int) (hp : pre.length = m) (q : Nat) : tailsR m (pre ++ ys) (q + 1) = pre.drop 1 :: tailsR m ys q := by
  unfold tailsR
  rw [List.range_succ_eq_map, List.map_cons, List.map_map]
  congr 1
  · rw [Nat.zero_mul, Nat.zero_add, List.drop_append_of_le_length (by omega), List.take_append_of_le_length (by rw [List.length_drop]; omega), List.take_of_length_le (by rw [List.length_drop]; omega)]
  · refine List.map_congr_left fun i _ => ?_
    show List.take (m - 1) (List.drop ((i + 1) * m + 1) (pre ++ ys)) = _
    rw [show (i + 1) * m + 1 = pre.length + (i * m + 1) by rw [hp, Nat.succ_mul]; omega, ← List.drop_drop, List.drop_left]
theorem layS_cons (h : Int) (hs : List Int) (t : List Int) (ts : List (List Int)) : layS ⟨h :: hs, t :: ts⟩ = layP (h, t) ++ layS ⟨hs, ts⟩ := rfl
theorem layP_N {h : Int} {t : List Int} (hh : isN h = true) (ht : t.all isN = true) : layP (h, t) = h :: t := by
  unfold layP
  rw [isN_byte hh, all_byte t ht]
theorem lay_forth {m : Nat} (hm : 0 < m) : ∀ (hs : List Int) (ts : List (List Int)) (rest : List Int), hs.length = ts.length → hs.all isN = true → ts.all (rowN ((m : Int) - 1)) = true →
    (layS ⟨hs, ts⟩).length = hs.length * m ∧ (layS ⟨hs, ts⟩).all isN = true ∧ headsR m (layS ⟨hs, ts⟩ ++ rest) hs.length = hs ∧ tailsR m (layS ⟨hs, ts⟩ ++ rest) hs.length = ts
  | [], [], rest, _, _, _ => by simp [layS, headsR, tailsR]
  | [], _ :: _, _, h, _, _ => by simp at h
  | _ :: _, [], _, h, _, _ => by simp at h
  | h :: hs, t :: ts, rest, hl, hh, ht => by
    simp only [List.all_cons, Bool.and_eq_true] at hh ht
    have h1 := ht.1
    unfold rowN at h1
    simp only [Bool.and_eq_true, decide_eq_true_eq] at h1
    obtain ⟨e1, e2, e3, e4⟩ := lay_forth hm hs ts rest (by simpa using hl) hh.2 ht.2
    have hp : (h :: t).length = m := by rw [List.length_cons]; omega
    rw [layS_cons, layP_N hh.1 h1.2]
    refine ⟨?_, ?_, ?_, ?_⟩
    · rw [List.length_append, e1, hp, List.length_cons, Nat.succ_mul]; omega
    · rw [List.all_append, e2, List.all_cons, hh.1, h1.2]; rfl
    · rw [List.append_assoc, List.length_cons, hd_split hm _ _ hp, e3]; rfl
    · rw [List.append_assoc, List.length_cons, tl_split hm _ _ hp, e4]; rfl
theorem lay_back {m : Nat} (hm : 0 < m) : ∀ (P : Nat) (xs : List Int), P * m ≤ xs.length → (xs.take (P * m)).all isN = true →
    layS ⟨headsR m xs P, tailsR m xs P⟩ = xs.take (P * m) ∧ (headsR m xs P).length = P ∧ (tailsR m xs P).length = P ∧ (headsR m xs P).all isN = true ∧ (tailsR m xs P).all (rowN ((m : Int) - 1)) = true
  | 0, xs, _, _ => by simp [layS, headsR, tailsR]
  | P + 1, xs, hl, ha => by
    obtain ⟨pre, hpre⟩ : ∃ pre, pre = xs.take m := ⟨_, rfl⟩
    obtain ⟨ys, hys⟩ : ∃ ys, ys = xs.drop m := ⟨_, rfl⟩
    have hx : xs = pre ++ ys := by rw [hpre, hys, List.take_append_drop]
    have hsm : (P + 1) * m = m + P * m := by rw [Nat.succ_mul]; omega
    have hp : pre.length = m := by rw [hpre, List.length_take]; omega
    subst hx
    rw [List.length_append] at hl
    have htk : (pre ++ ys).take ((P + 1) * m) = pre ++ ys.take (P * m) := by
      rw [hsm, ← hp, List.take_length_add_append]
    rw [htk, List.all_append, Bool.and_eq_true] at ha
    obtain ⟨e1, e2, e3, e4, e5⟩ := lay_back hm P ys (by omega) ha.2
    rw [hd_split hm _ _ hp, tl_split hm _ _ hp, htk]
    clear hpre hys
    obtain ⟨h, t, rfl⟩ : ∃ h t, pre = h :: t := by
      cases pre with
      | nil => simp at hp; omega
      | cons h t => exact ⟨h, t, rfl⟩
    have h1 := ha.1
    simp only [List.all_cons, Bool.and_eq_true] at h1
    have hr : rd (h :: t) 0 = h := rfl
    have hd : (h :: t).drop 1 = t := rfl
    rw [hr, hd]
    refine ⟨?_, ?_, ?_, ?_, ?_⟩
    · rw [layS_cons, layP_N h1.1 h1.2, e1]
    · rw [List.length_cons, e2]
    · rw [List.length_cons, e3]
    · rw [List.all_cons, e4, h1.1]; rfl
    · rw [List.all_cons, e5, Bool.and_true]
      unfold rowN
      rw [h1.2, Bool.and_true, decide_eq_true_eq]
      rw [List.length_cons] at hp
      omega
def need (f : S28) : Nat := f.f0.toNat * (f.f1.toNat + 1)
def needs (fs : List S28) : Nat := (fs.map need).sum
theorem shapeF_ge {f : S28} (h : shapeF f = true) : 0 ≤ f.f0 ∧ 0 ≤ f.f1 := by
  simp only [shapeF, shapeS, Bool.and_eq_true, decide_eq_true_eq] at h
  exact ⟨h.1, h.2.2.1⟩
theorem dec_forth : ∀ (fs : List S28) (l : List S31) (rest : List Int), fs.length = l.length → fs.all shapeF = true → (fs.zip l).all rightF = true → decL fs (bytesS l ++ rest) = some (l, rest) ∧ (bytesS l).length = needs fs ∧ (bytesS l).all isN = true
  | [], [], rest, _, _, _ => by simp [decL, bytesS, needs]
  | [], _ :: _, _, h, _, _ => by simp at h
  | _ :: _, [], _, h, _, _ => by simp at h
  | f :: fs, S :: l, rest, hl, hs, hr => by
    simp only [List.all_cons, Bool.and_eq_true] at hs
    rw [List.zip_cons_cons, List.all_cons, Bool.and_eq_true] at hr
    obtain ⟨e1, e2, e3⟩ := dec_forth fs l rest (by simpa using hl) hs.2 hr.2
    have hge := shapeF_ge hs.1
    have hS := hr.1
    simp only [rightF, rightS, Bool.and_eq_true, decide_eq_true_eq] at hS
    obtain ⟨h0, h1, h2, h3⟩ := hS
    obtain ⟨m, hm⟩ : ∃ m, m = f.f1.toNat + 1 := ⟨_, rfl⟩
    have hmR : f.f1 = (m : Int) - 1 := by omega
    have hP : f.f0.toNat = S.f0.length := by omega
    rw [hmR] at h3
    obtain ⟨g1, g2, g3, g4⟩ := lay_forth (by omega : 0 < m) S.f0 S.f1 (bytesS l ++ rest) (by omega) h2 h3
    have hb : bytesS (S :: l) ++ rest = layS S ++ (bytesS l ++ rest) := by
      unfold bytesS
      rw [List.flatMap_cons, List.append_assoc]
    have hb0 : bytesS (S :: l) = layS S ++ bytesS l := by unfold bytesS; rw [List.flatMap_cons]
    have hS0 : (⟨S.f0, S.f1⟩ : S31) = S := rfl
    rw [hS0] at g1 g2 g3 g4
    refine ⟨?_, ?_, ?_⟩
    · rw [hb]
      unfold decL
      have hfit : fitD f (layS S ++ (bytesS l ++ rest)) = true := by
        unfold fitD
        rw [← hm, hP, ← g1, List.take_left, g2, Bool.and_true, decide_eq_true_eq, List.length_append]
        omega
      have hrs : restD f (layS S ++ (bytesS l ++ rest)) = bytesS l ++ rest := by
        unfold restD
        rw [← hm, hP, ← g1, List.drop_left]
      have hsm : sumD f (layS S ++ (bytesS l ++ rest)) = S := by
        unfold sumD
        rw [← hm, hP, g3, g4]
      rw [if_pos hfit, hrs, hsm, e1]
      rfl
    · rw [hb0, List.length_append, e2, g1]
      unfold needs need
      rw [List.map_cons, List.sum_cons, ← hm, hP]
    · rw [hb0, List.all_append, g2, e3]; rfl
theorem dec_back : ∀ (fs : List S28) (xs : List Int) (l : List S31) (rest : List Int), fs.all shapeF = true → decL fs xs = some (l, rest) →
    l.length = fs.length ∧ (fs.zip l).all rightF = true ∧ bytesS l ++ rest = xs ∧ (bytesS l).length = needs fs
  | [], xs, l, rest, _, h => by
    simp only [decL, Option.some.injEq, Prod.mk.injEq] at h
    obtain ⟨rfl, rfl⟩ := h
    simp [bytesS, needs]
  | f :: fs, xs, l, rest, hs, h => by
    simp only [List.all_cons, Bool.and_eq_true] at hs
    have hge := shapeF_ge hs.1
    obtain ⟨m, hm⟩ : ∃ m, m = f.f1.toNat + 1 := ⟨_, rfl⟩
    have hmR : f.f1 = (m : Int) - 1 := by omega
    unfold decL at h
    by_cases hfit : fitD f xs = true
    · rw [if_pos hfit] at h
      unfold fitD at hfit
      rw [← hm, Bool.and_eq_true, decide_eq_true_eq] at hfit
      obtain ⟨g1, g2, g3, g4, g5⟩ := lay_back (by omega : 0 < m) f.f0.toNat xs hfit.1 hfit.2
      cases hd : decL fs (restD f xs) with
      | none => rw [hd] at h; cases h
      | some q =>
        obtain ⟨l', r'⟩ := q
        rw [hd] at h
        simp only [Option.map_some, Option.some.injEq, Prod.mk.injEq] at h
        obtain ⟨rfl, rfl⟩ := h
        obtain ⟨e1, e2, e3, e4⟩ := dec_back fs _ l' r' hs.2 hd
        have hb0 : bytesS (sumD f xs :: l') = layS (sumD f xs) ++ bytesS l' := by unfold bytesS; rw [List.flatMap_cons]
        have hs0 : sumD f xs = ⟨headsR m xs f.f0.toNat, tailsR m xs f.f0.toNat⟩ := by unfold sumD; rw [← hm]
        have hr0 : restD f xs = xs.drop (f.f0.toNat * m) := by unfold restD; rw [← hm]
        rw [hs0] at hb0 ⊢
        rw [g1] at hb0
        rw [hr0] at e3
        refine ⟨by rw [List.length_cons, e1, List.length_cons], ?_, ?_, ?_⟩
        · rw [List.zip_cons_cons, List.all_cons, e2, Bool.and_true]
          simp only [rightF, rightS, Bool.and_eq_true, decide_eq_true_eq]
          rw [hmR]
          exact ⟨by rw [g2]; omega, by rw [g3]; omega, g4, g5⟩
        · rw [hb0, List.append_assoc, e3, List.take_append_drop]
        · rw [hb0, List.length_append, e4, List.length_take, Nat.min_eq_left hfit.1]
          unfold needs need
          rw [List.map_cons, List.sum_cons, ← hm]
    · rw [if_neg hfit] at h
      cases h
theorem dec_can : ∀ (fs : List S28) (xs : List Int), fs.all shapeF = true → needs fs ≤ xs.length → (xs.take (needs fs)).all isN = true → ∃ l, decL fs xs = some (l, xs.drop (needs fs))
  | [], xs, _, _, _ => ⟨[], by simp [decL, needs]⟩
  | f :: fs, xs, hs, hl, ha => by
    simp only [List.all_cons, Bool.and_eq_true] at hs
    have hn : needs (f :: fs) = need f + needs fs := by unfold needs; rw [List.map_cons, List.sum_cons]
    rw [hn] at hl ha
    rw [List.take_add, List.all_append, Bool.and_eq_true] at ha
    have hr : restD f xs = xs.drop (need f) := rfl
    obtain ⟨l, h⟩ := dec_can fs (restD f xs) hs.2 (by rw [hr, List.length_drop]; omega) (by rw [hr]; exact ha.2)
    refine ⟨sumD f xs :: l, ?_⟩
    have hfit : fitD f xs = true := by
      unfold fitD
      rw [Bool.and_eq_true, decide_eq_true_eq]
      refine ⟨?_, ha.1⟩
      have : need f = f.f0.toNat * (f.f1.toNat + 1) := rfl
      omega
    unfold decL
    rw [if_pos hfit, h, Option.map_some, hr, List.drop_drop, hn]
end Go.Proofs.Ytgemcomcjojjbaa.PS
