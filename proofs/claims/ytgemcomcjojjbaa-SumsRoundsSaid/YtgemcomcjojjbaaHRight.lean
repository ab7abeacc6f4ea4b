/- right and Check of package sums: is it a summary of a function of this shape? No conditions. -/
import Derived.Test.YtgemcomcjojjbaaPSx1
import Derived.Test.YtgemcomcjojjbaaHNum
namespace Go.Proofs.Ytgemcomcjojjbaa.PS
open Go.RowKit Go.Proofs.YtgemcomcjojjbaaW.PrintWords Go.Proofs.YtgemcomcjojjbaaW.PrintLast Go.Proofs.YtgemcomcjojjbaaW.PrintMore
set_option linter.unusedVariables false
set_option linter.unusedSimpArgs false

theorem at_ints {w : World} {A : Option Addr} {n : Nat} {xs : List (List Int)} (h : Kd.C (Kd.slice 3 (Kd.int .i64)) w A n xs) (i : Nat) (hi : i < xs.length) (hn : n = xs.length) : ∃ ad A1 c1, A = some ad ∧ w.cell? (ad.add i) = some (.slice A1 xs[i].length c1) ∧ xs[i].length ≤ c1 ∧ Kd.C (Kd.int .i64) w A1 xs[i].length xs[i] := by
  obtain ⟨ad, h1, h2⟩ := h.2.2 (by omega)
  obtain ⟨c, hc, hK, hcell⟩ := h2 i xs[i] (List.getElem?_eq_getElem hi)
  obtain ⟨A1, c1, rfl, hl, hC⟩ := hK
  refine ⟨ad, A1, c1, h1, ?_, hl, hC⟩
  have := hcell 0 _ rfl
  simpa [Kd.slice] using this
def rowN (r : Int) (l : List Int) : Bool := decide ((l.length : Int) = r) && l.all isN
def rightS (p r : Int) (S : S31) : Bool := decide ((S.f0.length : Int) = p) && (decide ((S.f1.length : Int) = p) && (S.f0.all isN && S.f1.all (rowN r)))
theorem rows_next (r : Int) (xs : List (List Int)) (q : Nat) (h : q < xs.length) : (xs.take (q + 1)).all (rowN r) = ((xs.take q).all (rowN r) && rowN r xs[q]) := by
  rw [List.take_succ_eq_append_getElem h, List.all_append]
  simp
theorem right_any (p r v : Int) (B : Option Addr) (n b : Nat) (S : S31) (A0 : Option Addr) (c0 : Nat) (A1 : Option Addr) (c1 : Nat) (W : World) (h0 : Kd.C (Kd.int .i64) W A0 S.f0.length S.f0) (l0 : S.f0.length ≤ c0) (h1 : Kd.C (Kd.slice 3 (Kd.int .i64)) W A1 S.f1.length S.f1) (l1 : S.f1.length ≤ c1) :
    Calls Try.prog 27 #[.agg #[.int .i64 p, .int .i64 r, .int .i64 v, .slice B n b], .agg #[.slice A0 S.f0.length c0, .slice A1 S.f1.length c1]] W fun e w' => e = .returned (.bool (rightS p r S)) ∧ Below W.heap.size W w' := by
  obtain ⟨x, y⟩ := S
  replace h0 : Kd.C (Kd.int .i64) W A0 x.length x := h0
  replace h1 : Kd.C (Kd.slice 3 (Kd.int .i64)) W A1 y.length y := h1
  replace l0 : x.length ≤ c0 := l0
  replace l1 : y.length ≤ c1 := l1
  show Calls Try.prog 27 #[.agg #[.int .i64 p, .int .i64 r, .int .i64 v, .slice B n b], .agg #[.slice A0 x.length c0, .slice A1 y.length c1]] W fun e w' => e = .returned (.bool (rightS p r ⟨x, y⟩)) ∧ Below W.heap.size W w'
  have HR0 := Aside0.mk h0
  have HR1 := Aside0.mk h1
  have HL0 := Aside0.mk l0
  have HL1 := Aside0.mk l1
  have hm1 : y.length ≤ 9223372036854775807 := Kd.C_max h1
  have hm0 : x.length ≤ 9223372036854775807 := Kd.C_max h0
  have HNm := Aside0.mk numbers_any
  have HB0 := Aside0.mk (Below.refl W.heap.size W)
  clear h0 h1 l0 l1
  by_cases e1 : (x.length : Int) = p
  · by_cases e2 : (y.length : Int) = p
    · have e2' : ((y.length : Int) != p) = false := by simpa using e2
      have e1' : ((x.length : Int) != p) = false := by simpa using e1
      have d1 := Aside0.mk e1
      have d2 := Aside0.mk e2
      clear e1 e2
      go_enter Try.func27, Try.ntmps27
      go_wp2_with (first | ((with_reducible refine gate_dst (N := 2) rfl ?_); refine box_event ?hg (N := 2) ?hd (cs := #[.int .i64 p, .int .i64 r, .int .i64 v, .slice B n b]) (t := 28) ?hr ?_; (case hd => rfl); (case hg => rfl); (case hr => first | (go_simp; done) | (go_simp; rfl)); intro g2 hg w1 hbox hb; have BK2 := Aside0.mk hbox; have HB := Aside0.mk hb; clear HB0 hg hbox hb) | ((with_reducible refine gate_dst (N := 3) rfl ?_); refine box_event ?hg (N := 3) ?hd (cs := #[.slice A0 x.length c0, .slice A1 y.length c1]) (t := 31) ?hr ?_; (case hd => rfl); (case hg => rfl); (case hr => first | (go_simp; done) | (go_simp; rfl)); intro g3 hg w2 hbox hb; have BK2_ := Aside0.mk (blk_below BK2.out hb); have BK3 := Aside0.mk hbox; have HB_ := Aside0.mk (HB.out.trans (hb.mono HB.out.size)); clear HB BK2 hg hbox hb; have BK2 := BK2_; have HB := HB_; clear BK2_ HB_; have hz0 : w2.cell? ⟨g3, 0, none⟩ = some (.slice A0 x.length c0) := (blk_cell BK3.out 0).trans rfl; have hz1 : w2.cell? ⟨g3, 1, none⟩ = some (.slice A1 y.length c1) := (blk_cell BK3.out 1).trans rfl; have hy0 : w2.cell? ⟨g2, 0, none⟩ = some (.int .i64 p) := (blk_cell BK2.out 0).trans rfl; have hy1 : w2.cell? ⟨g2, 1, none⟩ = some (.int .i64 r) := (blk_cell BK2.out 1).trans rfl))
      refine (HNm.out x A0 c0 _ (Kd.C_below HR0.out HB.out) HL0.out).mono ?_
      rintro e w' ⟨rfl, rfl⟩
      cases hn : x.all isN with
      | false =>
        have HP : Aside0 (rightS p r ⟨x, y⟩ = false) := ⟨by unfold rightS; rw [hn]; simp⟩
        clear hn
        go_wp2
        go_ret
        exact ⟨ret_b HP.out.symm, HB.out⟩
      | true =>
        have HP : Aside0 (rightS p r ⟨x, y⟩ = y.all (rowN r)) := ⟨by unfold rightS; rw [hn, decide_eq_true (p := (x.length : Int) = p) d1.out, decide_eq_true (p := (y.length : Int) = p) d2.out]; simp⟩
        clear hn
        go_wp2_with fail
        have HR1w := Aside0.mk (Kd.C_below HR1.out HB.out)
        go_loopw [30] (fun v30 w' => ∃ q : Nat, q ≤ y.length ∧ v30 = .int .i64 (q : Int) ∧ Aside0 ((y.take q).all (rowN r) = true) ∧ w2 = w') (fun i _ => y.length - (intOf i).toNat)
        case atStart => exact ⟨0, Nat.zero_le _, rfl, ⟨by simp⟩, rfl⟩
        case round =>
          obtain ⟨q, hq, rfl, HA, rfl⟩ := hrel
          by_cases hlt : q < y.length
          · have g0 : (0 : Int) ≤ q := by omega
            have g1 : (q : Int) < y.length := by omega
            obtain ⟨ad, A2, c2, e0, hx, hl, hC⟩ := at_ints HR1w.out q hlt rfl
            cases e0
            have hwp : wrap64 ((q : Int) + 1) = (q : Int) + 1 := wrap_in (by omega) (by omega)
            have HX := Aside0.mk (rows_next r y q hlt)
            have HF : Aside0 (rowN r y[q] = false → y.all (rowN r) = false) := ⟨fun h => by rw [Bool.eq_false_iff]; intro h'; rw [List.all_eq_true] at h'; rw [h' _ (List.getElem_mem _)] at h; cases h⟩
            obtain ⟨z, hz⟩ : ∃ z, z = y[q] := ⟨_, rfl⟩
            rw [← hz] at hx hl hC HX HF
            have hmz : z.length ≤ 9223372036854775807 := Kd.C_max hC
            have HC := Aside0.mk hC
            have HLz := Aside0.mk hl
            clear hz hC hl
            by_cases er : (z.length : Int) = r
            · have er' : ((z.length : Int) != r) = false := by simpa using er
              have hrow : Aside0 (rowN r z = z.all isN) := ⟨by unfold rowN; rw [decide_eq_true (p := (z.length : Int) = r) er]; rfl⟩
              clear er
              go_wp2_with fail
              refine (HNm.out z A2 c2 _ HC.out HLz.out).mono ?_
              rintro e w' ⟨rfl, rfl⟩
              cases hn : z.all isN with
              | true =>
                have HX2 : Aside0 ((y.take (q + 1)).all (rowN r) = true) := ⟨by rw [HX.out, HA.out, hrow.out, hn]; rfl⟩
                go_wp2_with fail
                go_roundw
                case rel => exact ⟨q + 1, by omega, by go_num, HX2, trivial⟩
                case measure => simp [intOf]; omega
              | false =>
                have HP2 : Aside0 (rightS p r ⟨x, y⟩ = false) := ⟨by rw [HP.out]; exact HF.out (by rw [hrow.out, hn])⟩
                go_wp2_with fail
                go_ret
                exact ⟨ret_b HP2.out.symm, HB.out⟩
            · have er' : ((z.length : Int) != r) = true := by simpa using er
              have HP2 : Aside0 (rightS p r ⟨x, y⟩ = false) := ⟨by rw [HP.out]; exact HF.out (by unfold rowN; rw [decide_eq_false (p := (z.length : Int) = r) er]; rfl)⟩
              clear er
              go_wp2_with fail
              go_ret
              exact ⟨ret_b HP2.out.symm, HB.out⟩
          · obtain rfl : q = y.length := by omega
            rw [List.take_of_length_le (Nat.le_refl _)] at HA
            have HP2 : Aside0 (rightS p r ⟨x, y⟩ = true) := ⟨by rw [HP.out]; exact HA.out⟩
            go_wp2_with fail
            go_ret
            exact ⟨ret_b HP2.out.symm, HB.out⟩
    · have HP : Aside0 (rightS p r ⟨x, y⟩ = false) := ⟨by unfold rightS; rw [decide_eq_false (p := (y.length : Int) = p) e2]; simp⟩
      have e2' : ((y.length : Int) != p) = true := by simpa using e2
      have e1' : ((x.length : Int) != p) = false := by simpa using e1
      clear e1 e2
      go_enter Try.func27, Try.ntmps27
      go_wp2_with (first | ((with_reducible refine gate_dst (N := 2) rfl ?_); refine box_event ?hg (N := 2) ?hd (cs := #[.int .i64 p, .int .i64 r, .int .i64 v, .slice B n b]) (t := 28) ?hr ?_; (case hd => rfl); (case hg => rfl); (case hr => first | (go_simp; done) | (go_simp; rfl)); intro g2 hg w1 hbox hb; have BK2 := Aside0.mk hbox; have HB := Aside0.mk hb; clear HB0 hg hbox hb) | ((with_reducible refine gate_dst (N := 3) rfl ?_); refine box_event ?hg (N := 3) ?hd (cs := #[.slice A0 x.length c0, .slice A1 y.length c1]) (t := 31) ?hr ?_; (case hd => rfl); (case hg => rfl); (case hr => first | (go_simp; done) | (go_simp; rfl)); intro g3 hg w2 hbox hb; have BK2_ := Aside0.mk (blk_below BK2.out hb); have BK3 := Aside0.mk hbox; have HB_ := Aside0.mk (HB.out.trans (hb.mono HB.out.size)); clear HB BK2 hg hbox hb; have BK2 := BK2_; have HB := HB_; clear BK2_ HB_; have hz0 : w2.cell? ⟨g3, 0, none⟩ = some (.slice A0 x.length c0) := (blk_cell BK3.out 0).trans rfl; have hz1 : w2.cell? ⟨g3, 1, none⟩ = some (.slice A1 y.length c1) := (blk_cell BK3.out 1).trans rfl; have hy0 : w2.cell? ⟨g2, 0, none⟩ = some (.int .i64 p) := (blk_cell BK2.out 0).trans rfl; have hy1 : w2.cell? ⟨g2, 1, none⟩ = some (.int .i64 r) := (blk_cell BK2.out 1).trans rfl))
      go_ret
      exact ⟨ret_b HP.out.symm, HB.out⟩
  · have HP : Aside0 (rightS p r ⟨x, y⟩ = false) := ⟨by unfold rightS; rw [decide_eq_false (p := (x.length : Int) = p) e1]; simp⟩
    have e1' : ((x.length : Int) != p) = true := by simpa using e1
    clear e1
    go_enter Try.func27, Try.ntmps27
    go_wp2_with (first | ((with_reducible refine gate_dst (N := 2) rfl ?_); refine box_event ?hg (N := 2) ?hd (cs := #[.int .i64 p, .int .i64 r, .int .i64 v, .slice B n b]) (t := 28) ?hr ?_; (case hd => rfl); (case hg => rfl); (case hr => first | (go_simp; done) | (go_simp; rfl)); intro g2 hg w1 hbox hb; have BK2 := Aside0.mk hbox; have HB := Aside0.mk hb; clear HB0 hg hbox hb) | ((with_reducible refine gate_dst (N := 3) rfl ?_); refine box_event ?hg (N := 3) ?hd (cs := #[.slice A0 x.length c0, .slice A1 y.length c1]) (t := 31) ?hr ?_; (case hd => rfl); (case hg => rfl); (case hr => first | (go_simp; done) | (go_simp; rfl)); intro g3 hg w2 hbox hb; have BK2_ := Aside0.mk (blk_below BK2.out hb); have BK3 := Aside0.mk hbox; have HB_ := Aside0.mk (HB.out.trans (hb.mono HB.out.size)); clear HB BK2 hg hbox hb; have BK2 := BK2_; have HB := HB_; clear BK2_ HB_; have hz0 : w2.cell? ⟨g3, 0, none⟩ = some (.slice A0 x.length c0) := (blk_cell BK3.out 0).trans rfl; have hz1 : w2.cell? ⟨g3, 1, none⟩ = some (.slice A1 y.length c1) := (blk_cell BK3.out 1).trans rfl; have hy0 : w2.cell? ⟨g2, 0, none⟩ = some (.int .i64 p) := (blk_cell BK2.out 0).trans rfl; have hy1 : w2.cell? ⟨g2, 1, none⟩ = some (.int .i64 r) := (blk_cell BK2.out 1).trans rfl))
    go_ret
    exact ⟨ret_b HP.out.symm, HB.out⟩
end Go.Proofs.Ytgemcomcjojjbaa.PS
