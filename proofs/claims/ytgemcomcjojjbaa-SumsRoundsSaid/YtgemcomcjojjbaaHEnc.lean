/- Encode of package sums: the bytes of a list of summaries. No conditions. -/
import Derived.Test.YtgemcomcjojjbaaHLay
namespace Go.Proofs.Ytgemcomcjojjbaa.PS
open Go.RowKit Go.Proofs.YtgemcomcjojjbaaW.PrintWords Go.Proofs.YtgemcomcjojjbaaW.PrintLast Go.Proofs.YtgemcomcjojjbaaW.PrintMore
set_option linter.unusedVariables false
set_option linter.unusedSimpArgs false

def TAB_16.T9 : Bool × List (List Nat × List Nat) := (true, [([], []), ([], []), ([0, 1], [0, 1]), ([2], [2]), ([], []), ([3, 4], [3, 4]), ([5], [5])])
def TAB_16.B9 : List Nat := [0, 0, 3, 7, 0, 31, 63]
theorem TAB_16.tab9 : rtab .any (opsOf Try.f16 9) = TAB_16.T9 := by kernel_rfl
theorem TAB_16.bits9 : waitsOk TAB_16.T9.2 TAB_16.B9 = true := by kernel_rfl
theorem at_S31 {w : World} {A : Option Addr} {n : Nat} {xs : List S31} (h : k31.C w A n xs) (i : Nat) (hi : i < xs.length) (hn : n = xs.length) : ∃ ad A0 c0 A1 c1, A = some ad ∧ w.cell? (ad.add (i * 2)) = some (.slice A0 xs[i].f0.length c0) ∧ w.cell? ⟨(ad.add (i * 2)).block, (ad.add (i * 2)).off + 1, none⟩ = some (.slice A1 xs[i].f1.length c1) ∧ xs[i].f0.length ≤ c0 ∧ kI.C w A0 xs[i].f0.length xs[i].f0 ∧ xs[i].f1.length ≤ c1 ∧ kL.C w A1 xs[i].f1.length xs[i].f1 := by
  obtain ⟨ad, h1, h2⟩ := h.2.2 (by omega)
  obtain ⟨c, hc, hK, hcell⟩ := h2 i xs[i] (List.getElem?_eq_getElem hi)
  obtain ⟨A0, c0, A1, c1, rfl, l0, g0, l1, g1⟩ := k31_open hK
  refine ⟨ad, A0, c0, A1, c1, h1, ?_, ?_, l0, g0, l1, g1⟩
  · have := hcell 0 _ rfl
    exact this
  · rw [← add_field ad (i * 2) 1 (by omega)]; exact hcell 1 _ rfl
def rightF (p : S28 × S31) : Bool := rightS p.1.f0 p.1.f1 p.2
theorem right_lens {p r : Int} {S : S31} (h : rightS p r S = true) (hs : shapeS p r = true) : S.f0.length ≤ 8 ∧ S.f1.length = S.f0.length ∧ (S.f0.length : Int) = p ∧ ∀ (q : Nat) (h : q < S.f1.length), S.f1[q].length ≤ 4 := by
  simp only [rightS, Bool.and_eq_true, decide_eq_true_eq, List.all_eq_true] at h
  simp only [shapeS, Bool.and_eq_true, decide_eq_true_eq] at hs
  obtain ⟨h1, h2, h3, h4⟩ := h
  refine ⟨by omega, by omega, h1, fun q hq => ?_⟩
  have := h4 _ (List.getElem_mem hq)
  simp only [rowN, Bool.and_eq_true, decide_eq_true_eq] at this
  omega
theorem zipF_next (fs : List S28) (l : List S31) (q : Nat) (h : q < fs.length) (h' : q < l.length) : ((fs.zip l).take (q + 1)).all rightF = (((fs.zip l).take q).all rightF && rightF (fs[q], l[q])) := by
  rw [List.take_succ_eq_append_getElem (by rw [List.length_zip]; omega), List.all_append]
  simp
theorem zipF_not (fs : List S28) (l : List S31) (q : Nat) (h : q < fs.length) (h' : q < l.length) : rightF (fs[q], l[q]) = false → (fs.zip l).all rightF = false := by
  intro he
  rw [Bool.eq_false_iff]
  intro ha
  rw [List.all_eq_true] at ha
  have := ha ((fs.zip l)[q]'(by rw [List.length_zip]; omega)) (List.getElem_mem _)
  rw [List.getElem_zip] at this
  rw [this] at he
  cases he
theorem lay_len (S : S31) (h0 : S.f0.length ≤ 8) (h1 : S.f1.length = S.f0.length) (h : ∀ (q : Nat) (h : q < S.f1.length), S.f1[q].length ≤ 4) : (layS S).length ≤ 40 := by
  have gen : ∀ (Z : List (Int × List Int)), (∀ p ∈ Z, p.2.length ≤ 4) → (Z.flatMap layP).length ≤ 5 * Z.length := by
    intro Z
    induction Z with
    | nil => intro _; simp
    | cons p Z ih =>
      intro hp
      rw [List.flatMap_cons, List.length_append, List.length_cons]
      have h1 := ih (fun q hq => hp q (List.mem_cons_of_mem _ hq))
      have h2 := hp p (List.mem_cons_self)
      have h3 : (layP p).length = p.2.length + 1 := by simp [layP]
      omega
  have := gen (S.f0.zip S.f1) (fun p hp => by
    obtain ⟨q, hq, e⟩ := List.getElem_of_mem (List.of_mem_zip hp).2
    rw [← e]
    exact h q hq)
  have hz : (S.f0.zip S.f1).length ≤ 8 := by rw [List.length_zip]; omega
  unfold layS
  omega
def encErr (fs : List S28) (l : List S31) : Int := if fs.all shapeF = true then (if fs.length = l.length then (if (fs.zip l).all rightF = true then 0 else 90) else 90) else 1
def bytesS (l : List S31) : List Int := l.flatMap layS
def encOut (fs : List S28) (l : List S31) : List Int := if encErr fs l = 0 then bytesS l else []
theorem encOut_err {fs : List S28} {l : List S31} {k : Int} (h : encErr fs l = k) (hk : k ≠ 0) : encOut fs l = [] := by unfold encOut; rw [h, if_neg hk]
theorem bytes_next (l : List S31) (q : Nat) (h : q < l.length) : bytesS (l.take (q + 1)) = bytesS (l.take q) ++ layS l[q] := by
  unfold bytesS
  rw [List.take_succ_eq_append_getElem h, List.flatMap_append]
  simp
set_option maxHeartbeats 8000000 in
set_option maxRecDepth 100000 in
theorem enc_any (fs : List S28) (l : List S31) (A : Option Addr) (c : Nat) (B : Option Addr) (d : Nat) (W : World) (hA : k28.C W A fs.length fs) (hB : k31.C W B l.length l) (hl : l.length ≤ 2400000000000) :
    Calls Try.prog 16 #[.slice A fs.length c, .slice B l.length d] W fun e w' => ∃ v, e = .returned (.tuple #[v, .int .i64 (encErr fs l)]) ∧ kB.R 5 w' W.heap.size (fun _ => True) v (encOut fs l) ∧ Below W.heap.size W w' := by
  have HA := Aside0.mk hA
  have HB := Aside0.mk hB
  have HL := Aside0.mk hl
  have hma : fs.length ≤ 9223372036854775807 := Kd.C_max hA
  have hmb : l.length ≤ 9223372036854775807 := by omega
  have HSh := Aside0.mk (shapes_any fs A c W hA)
  clear hA hB hl
  go_enter Try.func16, Try.ntmps16
  go_wp2_with fail
  refine HSh.out.mono ?_
  rintro e w1 ⟨rfl, hb⟩
  have HBw := Aside0.mk hb
  clear hb HSh
  cases hs : fs.all shapeF with
  | false =>
    have HP : Aside0 (encErr fs l = 1) := ⟨by unfold encErr; rw [hs]; rfl⟩
    go_wp2_with fail
    go_ret2
    exact ⟨.slice none 0 0, (by rw [HP.out]; rfl), (by rw [encOut_err HP.out (by decide)]; exact Kd.R_nil _ _ _ _ _), HBw.out⟩
  | true =>
    by_cases hlen : fs.length = l.length
    · have e1 : ((fs.length : Int) != (l.length : Int)) = false := by simp [hlen]
      have HP : Aside0 (encErr fs l = if (fs.zip l).all rightF = true then 0 else 90) := ⟨by unfold encErr; rw [hs, if_pos rfl, if_pos hlen]⟩
      go_wp2_with fail
      go_loopw [6, 21] (fun v6 v21 w' => ∃ q : Nat, q ≤ l.length ∧ v21 = .int .i64 (q : Int) ∧ Aside0 (((fs.zip l).take q).all rightF = true) ∧ Aside0 (kB.R 5 w' W.heap.size (fun _ => True) v6 (bytesS (l.take q))) ∧ Aside0 ((bytesS (l.take q)).length ≤ 40 * q) ∧ Aside0 (Below W.heap.size W w')) (fun _ i _ => l.length - (intOf i).toNat)
      case atStart => exact ⟨0, Nat.zero_le _, rfl, ⟨by simp⟩, ⟨Kd.R_nil _ _ _ _ _⟩, ⟨by simp [bytesS]⟩, HBw⟩
      case round =>
        obtain ⟨q, hq, rfl, HAl, HO, HLn, HBq⟩ := hrel
        clear HBw
        by_cases hlt : q < l.length
        · have g0 : (0 : Int) ≤ q := by omega
          have g1 : (q : Int) < l.length := by omega
          have g2 : (q : Int) < fs.length := by omega
          have hqf : q < fs.length := by omega
          have hwp : wrap64 ((q : Int) + 1) = (q : Int) + 1 := wrap_in (by omega) (by omega)
          obtain ⟨bd, A0, c0, A1, c1, e0, hx0, hx1, l0, k0, l1, k1⟩ := at_S31 HB.out q hlt rfl
          obtain ⟨ad, A3, c3, e1_, hy0, hy1, hy2, hy3⟩ := at_S28 HA.out q hqf rfl
          cases e0
          cases e1_
          have HX := Aside0.mk (zipF_next fs l q hqf hlt)
          have HF := Aside0.mk (zipF_not fs l q hqf hlt)
          have HNx := Aside0.mk (bytes_next l q hlt)
          have HSf : Aside0 (shapeF fs[q] = true) := ⟨by rw [List.all_eq_true] at hs; exact hs _ (List.getElem_mem hqf)⟩
          obtain ⟨x, hx⟩ : ∃ x, x = fs[q] := ⟨_, rfl⟩
          obtain ⟨S, hS⟩ : ∃ S, S = l[q] := ⟨_, rfl⟩
          rw [← hx] at hy0 hy1 hy2 hy3 HX HF HSf
          rw [← hS] at hx0 hx1 l0 k0 l1 k1 HX HF HNx
          obtain ⟨x0, x1, x2, x3⟩ := x
          replace hy0 : _ = some (Value.int .i64 x0) := hy0
          replace hy1 : _ = some (Value.int .i64 x1) := hy1
          replace hy2 : _ = some (Value.int .i64 x2) := hy2
          replace hy3 : _ = some (Value.slice A3 x3.length c3) := hy3
          obtain ⟨n3, hn3⟩ : ∃ n3, n3 = x3.length := ⟨_, rfl⟩
          rw [← hn3] at hy3
          clear hx hS hn3
          have HSh : Aside0 (shapeS x0 x1 = true) := ⟨HSf.out⟩
          have HRe : Aside0 (rightF (⟨x0, x1, x2, x3⟩, S) = rightS x0 x1 S) := ⟨rfl⟩
          have HC0 := Aside0.mk k0
          have HC1 := Aside0.mk k1
          have HL0 := Aside0.mk l0
          have HL1 := Aside0.mk l1
          obtain ⟨S0, S1⟩ := S
          replace hx0 : W.cell? (bd.add (q * 2)) = some (Value.slice A0 S0.length c0) := hx0
          replace hx1 : W.cell? _ = some (Value.slice A1 S1.length c1) := hx1
          have HXs := Aside0.mk (And.intro hx0 hx1)
          have HYs := Aside0.mk (And.intro hy0 (And.intro hy1 (And.intro hy2 hy3)))
          clear hx0 hx1 hy0 hy1 hy2 hy3 k0 k1 l0 l1
          have hx0 := pw_cell_below HBq.out HXs.out.1
          have hx1 := pw_cell_below HBq.out HXs.out.2
          go_wp2_with ((with_reducible refine gate_dst (N := 8) rfl ?_); refine box_event ?hg (N := 8) ?hd (cs := #[.slice none 0 0, .slice none 0 0]) (t := 31) ?hr ?_; (case hd => rfl); (case hg => rfl); (case hr => first | (go_simp; done) | (go_simp; rfl)); intro g8 hg w8 hbox hb; have BK8 := Aside0.mk hbox; have HO8 := Aside0.mk (Kd.R_below HO.out hb); have HB8 := Aside0.mk (HBq.out.trans (hb.mono HBq.out.size)); have G8 : Aside0 (W.heap.size ≤ g8) := ⟨by have := HBq.out.size; omega⟩; clear hg hbox hb; have hz0 : w8.cell? ⟨g8, 0, none⟩ = some (.slice none 0 0) := (blk_cell BK8.out 0).trans rfl; have hz1 : w8.cell? ⟨g8, 1, none⟩ = some (.slice none 0 0) := (blk_cell BK8.out 1).trans rfl; have hf0 := blk_frozen BK8.out 0; have hf1 := blk_frozen BK8.out 1)
          have HRt : Aside0 (∀ w, Below W.heap.size W w → Calls Try.prog 27 #[.agg #[.int .i64 x0, .int .i64 x1, .int .i64 x2, .slice A3 n3 c3], .agg #[.slice A0 S0.length c0, .slice A1 S1.length c1]] w fun e w' => e = .returned (.bool (rightS x0 x1 ⟨S0, S1⟩)) ∧ Below w.heap.size w w') := ⟨fun w hb => right_any x0 x1 x2 A3 n3 c3 ⟨S0, S1⟩ A0 c0 A1 c1 w (Kd.C_below HC0.out hb) HL0.out (Kd.C_below HC1.out hb) HL1.out⟩
          have KZ : Aside0 (((w8.setCell ⟨g8, 0, none⟩ (.slice A0 S0.length c0)).setCell ⟨g8, 1, none⟩ (.slice A1 S1.length c1)).heap[g8]? = some (.cells #[.slice A0 S0.length c0, .slice A1 S1.length c1] 31 (0, 0))) := ⟨(blk_set (blk_set BK8.out 0 _) 1 _).trans rfl⟩
          have HOz := Aside0.mk (Kd.R_set (Kd.R_set HO8.out BK8.out (by decide) 0 (.slice A0 S0.length c0)) (blk_set BK8.out 0 _) (by decide) 1 (.slice A1 S1.length c1))
          have HBz : Aside0 (Below W.heap.size W ((w8.setCell ⟨g8, 0, none⟩ (.slice A0 S0.length c0)).setCell ⟨g8, 1, none⟩ (.slice A1 S1.length c1))) := ⟨below_set (below_set HB8.out G8.out) G8.out⟩
          obtain ⟨wz, hwz⟩ : ∃ wz, wz = (w8.setCell ⟨g8, 0, none⟩ (.slice A0 S0.length c0)).setCell ⟨g8, 1, none⟩ (.slice A1 S1.length c1) := ⟨_, rfl⟩
          rw [← hwz] at KZ HOz HBz ⊢
          clear hwz hx0 hx1 hz0 hz1 hf0 hf1 BK8 HO8 HB8 HO HBq HXs
          have hy0 := pw_cell_below HBz.out HYs.out.1
          have hy1 := pw_cell_below HBz.out HYs.out.2.1
          have hy2 := pw_cell_below HBz.out HYs.out.2.2.1
          have hy3 := pw_cell_below HBz.out HYs.out.2.2.2
          have hz0 : wz.cell? ⟨g8, 0, none⟩ = some (.slice A0 S0.length c0) := (blk_cell KZ.out 0).trans rfl
          have hz1 : wz.cell? ⟨g8, 1, none⟩ = some (.slice A1 S1.length c1) := (blk_cell KZ.out 1).trans rfl
          refine start_ (n := 7) (S := fun w' => w'.cell? (ad.add (q * 4)) = some (.int .i64 x0) ∧ w'.cell? ⟨(ad.add (q * 4)).block, (ad.add (q * 4)).off + 1, none⟩ = some (.int .i64 x1) ∧ w'.cell? ⟨(ad.add (q * 4)).block, (ad.add (q * 4)).off + 2, none⟩ = some (.int .i64 x2) ∧ w'.cell? ⟨(ad.add (q * 4)).block, (ad.add (q * 4)).off + 3, none⟩ = some (.slice A3 n3 c3) ∧ w'.cell? ⟨g8, 0, none⟩ = some (.slice A0 S0.length c0) ∧ w'.cell? ⟨g8, 1, none⟩ = some (.slice A1 S1.length c1)) (ds := []) #[false, false, false, false, false, false, false] (by kernel_rfl) rfl rfl ⟨hy0, hy1, hy2, hy3, hz0, hz1⟩ (fun hHeld => ?_)
          refine with_tabW TAB_16.tab9 TAB_16.bits9 (fun HT_ HW_ => ?_)
          refine pure_ (i := 0) (N := some 26) (v := ?_) (a' := ?_) #[true, false, false, false, false, false, false] rfl rfl (any_of HT_.out (by kernel_rfl)) (fun _ _ _ h => h) (Or.inl ⟨by rfl, ?_⟩) ?_ ?_
          rotate_left
          · intro w'
            go_simp
            with_reducible rfl
          rotate_left
          · simp only [Act.put, List.setIfInBounds_toArray, List.set_cons_zero, List.set_cons_succ, i64_w, i32_w]
            rfl
          refine pure_ (i := 1) (N := some 27) (v := ?_) (a' := ?_) #[true, true, false, false, false, false, false] rfl rfl (any_of HT_.out (by kernel_rfl)) (fun _ _ _ h => h) (Or.inl ⟨by rfl, ?_⟩) ?_ ?_
          rotate_left
          · intro w'
            go_simp
            with_reducible rfl
          rotate_left
          · simp only [Act.put, List.setIfInBounds_toArray, List.set_cons_zero, List.set_cons_succ, i64_w, i32_w]
            rfl
          refine pure_ (i := 2) (N := some 28) (v := ?_) (a' := ?_) #[true, true, true, false, false, false, false] rfl rfl (any_of HT_.out (by kernel_rfl)) (fun _ _ _ h => h) (Or.inl ⟨by rfl, ?_⟩) ?_ ?_
          rotate_left
          · intro w'
            go_simp
            with_reducible rfl
          rotate_left
          · simp only [Act.put, List.setIfInBounds_toArray, List.set_cons_zero, List.set_cons_succ, i64_w, i32_w]
            rfl
          refine take_ (i := 3) (N := some 29) (v := ?_) (a' := ?_) #[true, true, true, true, false, false, false] rfl rfl (take_ofW HT_.out HW_.out (by kernel_rfl)) (fun _ _ _ h => h) (Or.inl ⟨by rfl, ?_⟩) hHeld ?_ ?_
          rotate_left
          · rintro w' ⟨s0, s1, s2, s3, s4, s5⟩
            go_simp
            with_reducible rfl
          rotate_left
          · simp only [Act.put, List.setIfInBounds_toArray, List.set_cons_zero, List.set_cons_succ, i64_w, i32_w]
            rfl
          refine take_ (i := 4) (N := some 30) (v := ?_) (a' := ?_) #[true, true, true, true, true, false, false] rfl rfl (take_ofW HT_.out HW_.out (by kernel_rfl)) (fun _ _ _ h => h) (Or.inl ⟨by rfl, ?_⟩) hHeld ?_ ?_
          rotate_left
          · rintro w' ⟨s0, s1, s2, s3, s4, s5⟩
            go_simp
            with_reducible rfl
          rotate_left
          · simp only [Act.put, List.setIfInBounds_toArray, List.set_cons_zero, List.set_cons_succ, i64_w, i32_w]
            rfl
          refine one_ (i := 5) (N := some 31) #[true, true, true, true, true, true, false] rfl rfl (one_of HT_.out (by kernel_rfl)) (by decide) (fun K hK => ?_)
          refine goes_ Try.func27 (by kernel_rfl) rfl #[.agg #[.int .i64 x0, .int .i64 x1, .int .i64 x2, .slice A3 n3 c3], .agg #[.slice A0 S0.length c0, .slice A1 S1.length c1]] (by rfl) rfl rfl (by simp only [List.map_toArray, List.map_cons, List.map_nil]; rfl) ?_
          with_reducible refine (HRt.out _ (HBz.out.drew)).mono ?_
          rintro e_ wn ⟨rfl, hb⟩
          refine ⟨_, rfl, ?_⟩
          have HBn := Aside0.mk ((below_drew (Below.refl wz.heap.size wz)).trans hb)
          clear hb
          refine hK.out _ _ ⟨pw_cell_below HBn.out hy0, pw_cell_below HBn.out hy1, pw_cell_below HBn.out hy2, pw_cell_below HBn.out hy3, pw_cell_below HBn.out hz0, pw_cell_below HBn.out hz1⟩ (fun hHeld => ?_)
          clear hK K
          refine norm_ (a' := ?_) ?_ ?_
          rotate_left
          · show Act.put _ (some 31) _ = _
            simp only [Act.put, List.setIfInBounds_toArray, List.set_cons_zero, List.set_cons_succ, i64_w, i32_w]
            rfl
          refine pure_ (i := 6) (N := some 32) (v := ?_) (a' := ?_) #[true, true, true, true, true, true, true] rfl rfl (any_of HT_.out (by kernel_rfl)) (fun _ _ _ h => h) (Or.inl ⟨by rfl, ?_⟩) ?_ ?_
          rotate_left
          · intro w'
            go_simp
            with_reducible rfl
          rotate_left
          · simp only [Act.put, List.setIfInBounds_toArray, List.set_cons_zero, List.set_cons_succ, i64_w, i32_w]
            rfl
          refine done_ (done_of HT_.out (by kernel_rfl)) ?_

          clear hHeld HT_ HW_ hy0 hy1 hy2 hy3 hz0 hz1
          have KN := Aside0.mk (blk_below KZ.out HBn.out)
          have HON := Aside0.mk (Kd.R_below HOz.out HBn.out)
          have HBN := Aside0.mk (HBz.out.trans (HBn.out.mono HBz.out.size))
          clear KZ HOz HBz HBn
          cases hr : rightS x0 x1 ⟨S0, S1⟩ with
          | false =>
            have HP2 : Aside0 (encErr fs l = 90) := ⟨by rw [HP.out, if_neg (by rw [HF.out (by rw [HRe.out, hr])]; decide)]⟩
            go_wp2_with fail
            go_ret2
            exact ⟨.slice none 0 0, (by rw [HP2.out]; rfl), (by rw [encOut_err HP2.out (by decide)]; exact Kd.R_nil _ _ _ _ _), HBN.out⟩
          | true =>
            have HX2 : Aside0 (((fs.zip l).take (q + 1)).all rightF = true) := ⟨by rw [HX.out, HAl.out, HRe.out, hr]; rfl⟩
            have HLs := Aside0.mk (right_lens hr HSh.out)
            have hz0 : wn.cell? ⟨g8, 0, none⟩ = some (.slice A0 S0.length c0) := (blk_cell KN.out 0).trans rfl
            have hz1 : wn.cell? ⟨g8, 1, none⟩ = some (.slice A1 S1.length c1) := (blk_cell KN.out 1).trans rfl
            have HLb : Aside0 ((bytesS (l.take q)).length ≤ 100000000000000) := ⟨by have := HLn.out; have := HL.out; omega⟩
            have HLy := Aside0.mk (lay_len ⟨S0, S1⟩ HLs.out.1 HLs.out.2.1 HLs.out.2.2.2)
            go_wp2_with fail
            refine (lay_any (bytesS (l.take q)) u6 ⟨S0, S1⟩ A0 c0 A1 c1 W wn HBN.out HC0.out HL0.out HC1.out HL1.out HON.out HLb.out HLs.out.1 HLs.out.2.1 HLs.out.2.2.2).mono ?_
            rintro e w' ⟨v', rfl, hO, hB⟩
            have HO2 : Aside0 (kB.R 5 w' W.heap.size (fun _ => True) v' (bytesS (l.take (q + 1)))) := ⟨by rw [HNx.out]; exact hO⟩
            have HB2 := Aside0.mk hB
            have HLn2 : Aside0 ((bytesS (l.take (q + 1))).length ≤ 40 * (q + 1)) := ⟨by rw [HNx.out, List.length_append]; have := HLn.out; have := HLy.out; omega⟩
            clear hO hB hz0 hz1
            go_wp2_with fail
            go_roundw
            case rel => exact ⟨q + 1, by omega, by go_num, HX2, HO2, HLn2, HB2⟩
            case measure => simp [intOf]; omega
        · obtain rfl : l.length = q := by omega
          rw [List.take_of_length_le (by rw [List.length_zip]; exact Nat.min_le_right _ _)] at HAl
          rw [List.take_of_length_le (Nat.le_refl _)] at HO
          have HP2 : Aside0 (encErr fs l = 0) := ⟨by rw [HP.out, if_pos HAl.out]⟩
          have HP3 : Aside0 (encOut fs l = bytesS l) := ⟨by unfold encOut; rw [HP2.out, if_pos rfl]⟩
          go_wp2_with fail
          go_ret2
          exact ⟨_, (by rw [HP2.out]; rfl), (by rw [HP3.out]; exact HO.out), HBq.out⟩
    · have e1 : ((fs.length : Int) != (l.length : Int)) = true := by simp; omega
      have HP : Aside0 (encErr fs l = 90) := ⟨by unfold encErr; rw [hs, if_pos rfl, if_neg hlen]⟩
      go_wp2_with fail
      go_ret2
      exact ⟨.slice none 0 0, (by rw [HP.out]; rfl), (by rw [encOut_err HP.out (by decide)]; exact Kd.R_nil _ _ _ _ _), HBw.out⟩
end Go.Proofs.Ytgemcomcjojjbaa.PS
