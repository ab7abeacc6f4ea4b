/- shape and Check of package sums; shapes of a list of functions, with the two of package slices that it calls. No conditions. -/
import Derived.Test.YtgemcomcjojjbaaHBoth
namespace Go.Proofs.Ytgemcomcjojjbaa.PS
open Go.RowKit Go.Proofs.YtgemcomcjojjbaaW.PrintWords Go.Proofs.YtgemcomcjojjbaaW.PrintLast Go.Proofs.YtgemcomcjojjbaaW.PrintMore
set_option linter.unusedVariables false
set_option linter.unusedSimpArgs false

def shapeS (p r : Int) : Bool := decide (0 ≤ p) && (decide (p ≤ 8) && (decide (0 ≤ r) && decide (r ≤ 4)))
theorem shape_any (p r v : Int) (B : Option Addr) (n b : Nat) (W : World) :
    Calls Try.prog 26 #[.agg #[.int .i64 p, .int .i64 r, .int .i64 v, .slice B n b]] W fun e w' => e = .returned (.bool (shapeS p r)) ∧ Below W.heap.size W w' := by
  have HB0 := Aside0.mk (Below.refl W.heap.size W)
  by_cases h1 : 0 ≤ p
  · by_cases h2 : p ≤ 8
    · by_cases h3 : 0 ≤ r
      · have HP : Aside0 (decide (r ≤ 4) = shapeS p r) := ⟨by unfold shapeS; rw [decide_eq_true h1, decide_eq_true h2, decide_eq_true h3]; simp⟩
        have e1 : decide (p ≥ 0) = true := decide_eq_true h1
        have e2 : decide (p ≤ 8) = true := decide_eq_true h2
        have e3 : decide (r ≥ 0) = true := decide_eq_true h3
        clear h1 h2 h3
        go_enter Try.func26, Try.ntmps26
        go_wp2_with (((with_reducible refine gate_dst (N := 1) rfl ?_); refine box_event ?hg (N := 1) ?hd (cs := #[.int .i64 p, .int .i64 r, .int .i64 v, .slice B n b]) (t := 28) ?hr ?_; (case hd => rfl); (case hg => rfl); (case hr => first | (go_simp; done) | (go_simp; rfl)); intro g1 hg w1 hbox hb; have BK1 := Aside0.mk hbox; have HB := Aside0.mk hb; clear HB0 hg hbox hb; have hz0 : w1.cell? ⟨g1, 0, none⟩ = some (.int .i64 p) := (blk_cell BK1.out 0).trans rfl; have hz1 : w1.cell? ⟨g1, 1, none⟩ = some (.int .i64 r) := (blk_cell BK1.out 1).trans rfl; have hz2 : w1.cell? ⟨g1, 2, none⟩ = some (.int .i64 v) := (blk_cell BK1.out 2).trans rfl; have hz3 : w1.cell? ⟨g1, 3, none⟩ = some (.slice B n b) := (blk_cell BK1.out 3).trans rfl))
        go_ret
        exact ⟨ret_b HP.out, HB.out⟩
      · have HP : Aside0 (false = shapeS p r) := ⟨by unfold shapeS; rw [decide_eq_true h1, decide_eq_true h2, decide_eq_false h3]; simp⟩
        have e1 : decide (p ≥ 0) = true := decide_eq_true h1
        have e2 : decide (p ≤ 8) = true := decide_eq_true h2
        have e3 : decide (r ≥ 0) = false := decide_eq_false h3
        clear h1 h2 h3
        go_enter Try.func26, Try.ntmps26
        go_wp2_with (((with_reducible refine gate_dst (N := 1) rfl ?_); refine box_event ?hg (N := 1) ?hd (cs := #[.int .i64 p, .int .i64 r, .int .i64 v, .slice B n b]) (t := 28) ?hr ?_; (case hd => rfl); (case hg => rfl); (case hr => first | (go_simp; done) | (go_simp; rfl)); intro g1 hg w1 hbox hb; have BK1 := Aside0.mk hbox; have HB := Aside0.mk hb; clear HB0 hg hbox hb; have hz0 : w1.cell? ⟨g1, 0, none⟩ = some (.int .i64 p) := (blk_cell BK1.out 0).trans rfl; have hz1 : w1.cell? ⟨g1, 1, none⟩ = some (.int .i64 r) := (blk_cell BK1.out 1).trans rfl; have hz2 : w1.cell? ⟨g1, 2, none⟩ = some (.int .i64 v) := (blk_cell BK1.out 2).trans rfl; have hz3 : w1.cell? ⟨g1, 3, none⟩ = some (.slice B n b) := (blk_cell BK1.out 3).trans rfl))
        go_ret
        exact ⟨ret_b HP.out, HB.out⟩
    · have HP : Aside0 (false = shapeS p r) := ⟨by unfold shapeS; rw [decide_eq_true h1, decide_eq_false h2]; simp⟩
      have e1 : decide (p ≥ 0) = true := decide_eq_true h1
      have e2 : decide (p ≤ 8) = false := decide_eq_false h2
      clear h1 h2
      go_enter Try.func26, Try.ntmps26
      go_wp2_with (((with_reducible refine gate_dst (N := 1) rfl ?_); refine box_event ?hg (N := 1) ?hd (cs := #[.int .i64 p, .int .i64 r, .int .i64 v, .slice B n b]) (t := 28) ?hr ?_; (case hd => rfl); (case hg => rfl); (case hr => first | (go_simp; done) | (go_simp; rfl)); intro g1 hg w1 hbox hb; have BK1 := Aside0.mk hbox; have HB := Aside0.mk hb; clear HB0 hg hbox hb; have hz0 : w1.cell? ⟨g1, 0, none⟩ = some (.int .i64 p) := (blk_cell BK1.out 0).trans rfl; have hz1 : w1.cell? ⟨g1, 1, none⟩ = some (.int .i64 r) := (blk_cell BK1.out 1).trans rfl; have hz2 : w1.cell? ⟨g1, 2, none⟩ = some (.int .i64 v) := (blk_cell BK1.out 2).trans rfl; have hz3 : w1.cell? ⟨g1, 3, none⟩ = some (.slice B n b) := (blk_cell BK1.out 3).trans rfl))
      go_ret
      exact ⟨ret_b HP.out, HB.out⟩
  · have HP : Aside0 (false = shapeS p r) := ⟨by unfold shapeS; rw [decide_eq_false h1]; simp⟩
    have e1 : decide (p ≥ 0) = false := decide_eq_false h1
    clear h1
    go_enter Try.func26, Try.ntmps26
    go_wp2_with (((with_reducible refine gate_dst (N := 1) rfl ?_); refine box_event ?hg (N := 1) ?hd (cs := #[.int .i64 p, .int .i64 r, .int .i64 v, .slice B n b]) (t := 28) ?hr ?_; (case hd => rfl); (case hg => rfl); (case hr => first | (go_simp; done) | (go_simp; rfl)); intro g1 hg w1 hbox hb; have BK1 := Aside0.mk hbox; have HB := Aside0.mk hb; clear HB0 hg hbox hb; have hz0 : w1.cell? ⟨g1, 0, none⟩ = some (.int .i64 p) := (blk_cell BK1.out 0).trans rfl; have hz1 : w1.cell? ⟨g1, 1, none⟩ = some (.int .i64 r) := (blk_cell BK1.out 1).trans rfl; have hz2 : w1.cell? ⟨g1, 2, none⟩ = some (.int .i64 v) := (blk_cell BK1.out 2).trans rfl; have hz3 : w1.cell? ⟨g1, 3, none⟩ = some (.slice B n b) := (blk_cell BK1.out 3).trans rfl))
    go_ret
    exact ⟨ret_b HP.out, HB.out⟩
def checkS (p r : Int) (S : S31) : Int := if shapeS p r = true then (if rightS p r S = true then 0 else 90) else 1
theorem check_any (p r v : Int) (B : Option Addr) (n b : Nat) (S : S31) (A0 : Option Addr) (c0 : Nat) (A1 : Option Addr) (c1 : Nat) (W : World) (h0 : kI.C W A0 S.f0.length S.f0) (l0 : S.f0.length ≤ c0) (h1 : kL.C W A1 S.f1.length S.f1) (l1 : S.f1.length ≤ c1) :
    Calls Try.prog 12 #[.agg #[.int .i64 p, .int .i64 r, .int .i64 v, .slice B n b], .agg #[.slice A0 S.f0.length c0, .slice A1 S.f1.length c1]] W fun e w' => e = .returned (.int .i64 (checkS p r S)) ∧ Below W.heap.size W w' := by
  have HSh := Aside0.mk (fun w => shape_any p r v B n b w)
  have HRt : Aside0 (∀ w, Below W.heap.size W w → Calls Try.prog 27 #[.agg #[.int .i64 p, .int .i64 r, .int .i64 v, .slice B n b], .agg #[.slice A0 S.f0.length c0, .slice A1 S.f1.length c1]] w fun e w' => e = .returned (.bool (rightS p r S)) ∧ Below w.heap.size w w') := ⟨fun w hb => right_any p r v B n b S A0 c0 A1 c1 w (Kd.C_below h0 hb) l0 (Kd.C_below h1 hb) l1⟩
  have HB0 := Aside0.mk (Below.refl W.heap.size W)
  obtain ⟨la, hla⟩ : ∃ la, la = S.f0.length := ⟨_, rfl⟩
  obtain ⟨ma, hma⟩ : ∃ ma, ma = S.f1.length := ⟨_, rfl⟩
  rw [← hla, ← hma] at HRt ⊢
  clear h0 h1 l0 l1 hla hma
  go_enter Try.func12, Try.ntmps12
  go_wp2_with (first | ((with_reducible refine gate_dst (N := 2) rfl ?_); refine box_event ?hg (N := 2) ?hd (cs := #[.int .i64 p, .int .i64 r, .int .i64 v, .slice B n b]) (t := 28) ?hr ?_; (case hd => rfl); (case hg => rfl); (case hr => first | (go_simp; done) | (go_simp; rfl)); intro g2 hg w1 hbox hb; have BK2 := Aside0.mk hbox; have HB := Aside0.mk hb; clear HB0 hg hbox hb) | ((with_reducible refine gate_dst (N := 3) rfl ?_); refine box_event ?hg (N := 3) ?hd (cs := #[.slice A0 la c0, .slice A1 ma c1]) (t := 31) ?hr ?_; (case hd => rfl); (case hg => rfl); (case hr => first | (go_simp; done) | (go_simp; rfl)); intro g3 hg w2 hbox hb; have BK2_ := Aside0.mk (blk_below BK2.out hb); have BK3 := Aside0.mk hbox; have HB_ := Aside0.mk (HB.out.trans (hb.mono HB.out.size)); clear HB BK2 hg hbox hb; have BK2 := BK2_; have HB := HB_; clear BK2_ HB_; have hz0 : w2.cell? ⟨g2, 0, none⟩ = some (.int .i64 p) := (blk_cell BK2.out 0).trans rfl; have hz1 : w2.cell? ⟨g2, 1, none⟩ = some (.int .i64 r) := (blk_cell BK2.out 1).trans rfl; have hz2 : w2.cell? ⟨g2, 2, none⟩ = some (.int .i64 v) := (blk_cell BK2.out 2).trans rfl; have hz3 : w2.cell? ⟨g2, 3, none⟩ = some (.slice B n b) := (blk_cell BK2.out 3).trans rfl; have hy0 : w2.cell? ⟨g3, 0, none⟩ = some (.slice A0 la c0) := (blk_cell BK3.out 0).trans rfl; have hy1 : w2.cell? ⟨g3, 1, none⟩ = some (.slice A1 ma c1) := (blk_cell BK3.out 1).trans rfl))
  refine (HSh.out _).mono ?_
  rintro e w3 ⟨rfl, hb⟩
  have BK3_ := Aside0.mk (blk_below BK3.out hb)
  have BK2_ := Aside0.mk (blk_below BK2.out hb)
  have HB_ := Aside0.mk (HB.out.trans (hb.mono HB.out.size))
  clear HB BK2 BK3 hb hz0 hz1 hz2 hz3 hy0 hy1
  have hz0 : w3.cell? ⟨g2, 0, none⟩ = some (.int .i64 p) := (blk_cell BK2_.out 0).trans rfl
  have hz1 : w3.cell? ⟨g2, 1, none⟩ = some (.int .i64 r) := (blk_cell BK2_.out 1).trans rfl
  have hz2 : w3.cell? ⟨g2, 2, none⟩ = some (.int .i64 v) := (blk_cell BK2_.out 2).trans rfl
  have hz3 : w3.cell? ⟨g2, 3, none⟩ = some (.slice B n b) := (blk_cell BK2_.out 3).trans rfl
  have hy0 : w3.cell? ⟨g3, 0, none⟩ = some (.slice A0 la c0) := (blk_cell BK3_.out 0).trans rfl
  have hy1 : w3.cell? ⟨g3, 1, none⟩ = some (.slice A1 ma c1) := (blk_cell BK3_.out 1).trans rfl
  cases hs : shapeS p r with
  | false =>
    have HP : Aside0 (checkS p r S = 1) := ⟨by unfold checkS; rw [hs]; rfl⟩
    go_wp2_with fail
    go_ret
    exact ⟨by rw [HP.out]; rfl, HB_.out⟩
  | true =>
    go_wp2_with fail
    refine (HRt.out _ HB_.out).mono ?_
    rintro e w4 ⟨rfl, hb⟩
    have HB2 := Aside0.mk (HB_.out.trans (hb.mono HB_.out.size))
    clear hb hz0 hz1 hz2 hz3 hy0 hy1
    cases hr : rightS p r S with
    | false =>
      have HP : Aside0 (checkS p r S = 90) := ⟨by unfold checkS; rw [hs, hr]; rfl⟩
      go_wp2_with fail
      go_ret
      exact ⟨by rw [HP.out]; rfl, HB2.out⟩
    | true =>
      have HP : Aside0 (checkS p r S = 0) := ⟨by unfold checkS; rw [hs, hr]; rfl⟩
      go_wp2_with fail
      go_ret
      exact ⟨by rw [HP.out]; rfl, HB2.out⟩
theorem at_S28 {w : World} {A : Option Addr} {n : Nat} {xs : List S28} (h : k28.C w A n xs) (i : Nat) (hi : i < xs.length) (hn : n = xs.length) : ∃ ad A3 c3, A = some ad ∧ w.cell? (ad.add (i * 4)) = some (.int .i64 xs[i].f0) ∧ w.cell? ⟨(ad.add (i * 4)).block, (ad.add (i * 4)).off + 1, none⟩ = some (.int .i64 xs[i].f1) ∧ w.cell? ⟨(ad.add (i * 4)).block, (ad.add (i * 4)).off + 2, none⟩ = some (.int .i64 xs[i].f2) ∧ w.cell? ⟨(ad.add (i * 4)).block, (ad.add (i * 4)).off + 3, none⟩ = some (.slice A3 xs[i].f3.length c3) := by
  obtain ⟨ad, h1, h2⟩ := h.2.2 (by omega)
  obtain ⟨c, hc, hK, hcell⟩ := h2 i xs[i] (List.getElem?_eq_getElem hi)
  obtain ⟨A3, c3, rfl, _⟩ := k28_open hK
  refine ⟨ad, A3, c3, h1, ?_, ?_, ?_, ?_⟩
  · have := hcell 0 _ rfl
    exact this
  · rw [← add_field ad (i * 4) 1 (by omega)]; exact hcell 1 _ rfl
  · rw [← add_field ad (i * 4) 2 (by omega)]; exact hcell 2 _ rfl
  · rw [← add_field ad (i * 4) 3 (by omega)]; exact hcell 3 _ rfl
def shapeF (x : S28) : Bool := shapeS x.f0 x.f1
theorem shapes1 (p r v : Int) (B : Option Addr) (n b : Nat) (W : World) :
    Calls Try.prog 39 #[.agg #[.int .i64 p, .int .i64 r, .int .i64 v, .slice B n b]] W fun e w' => e = .returned (.bool (!shapeS p r)) ∧ Below W.heap.size W w' := by
  have HB0 := Aside0.mk (Below.refl W.heap.size W)
  have HSh := Aside0.mk (fun w => shape_any p r v B n b w)
  go_enter Try.func39, Try.ntmps39
  go_wp2_with ((with_reducible refine gate_dst (N := 1) rfl ?_); refine box_event ?hg (N := 1) ?hd (cs := #[.int .i64 p, .int .i64 r, .int .i64 v, .slice B n b]) (t := 28) ?hr ?_; (case hd => rfl); (case hg => rfl); (case hr => first | (go_simp; done) | (go_simp; rfl)); intro g1 hg w1 hbox hb; have BK1 := Aside0.mk hbox; have HB := Aside0.mk hb; clear HB0 hg hbox hb; have hz0 : w1.cell? ⟨g1, 0, none⟩ = some (.int .i64 p) := (blk_cell BK1.out 0).trans rfl; have hz1 : w1.cell? ⟨g1, 1, none⟩ = some (.int .i64 r) := (blk_cell BK1.out 1).trans rfl; have hz2 : w1.cell? ⟨g1, 2, none⟩ = some (.int .i64 v) := (blk_cell BK1.out 2).trans rfl; have hz3 : w1.cell? ⟨g1, 3, none⟩ = some (.slice B n b) := (blk_cell BK1.out 3).trans rfl)
  refine (HSh.out _).mono ?_
  rintro e w3 ⟨rfl, hb⟩
  have HB2 := Aside0.mk (HB.out.trans (hb.mono HB.out.size))
  clear hz0 hz1 hz2 hz3 hb
  go_wp2
  go_ret
  exact ⟨rfl, HB2.out⟩
theorem shapes_next (xs : List S28) (q : Nat) (h : q < xs.length) : (xs.take (q + 1)).all shapeF = ((xs.take q).all shapeF && shapeF xs[q]) := by
  rw [List.take_succ_eq_append_getElem h, List.all_append]
  simp
theorem index28_any (xs : List S28) (A : Option Addr) (c : Nat) (W : World) (hr : k28.C W A xs.length xs) : Calls Try.prog 45 #[.slice A xs.length c, .func (Fn.func 39) #[] #[]] W fun e w' => ∃ i : Int, e = .returned (.int .i64 i) ∧ (decide (0 ≤ i)) = (!xs.all shapeF) ∧ Below W.heap.size W w' := by
  have HR := Aside0.mk hr
  have hm : xs.length ≤ 9223372036854775807 := Kd.C_max hr
  have HN := Aside0.mk shapes1
  clear hr
  go_enter Try.func45, Try.ntmps45
  go_wp2_with fail
  go_loopw [8] (fun v8 w' => ∃ q : Nat, q ≤ xs.length ∧ v8 = .int .i64 (q : Int) ∧ Aside0 ((xs.take q).all shapeF = true) ∧ Aside0 (Below W.heap.size W w')) (fun i _ => xs.length - (intOf i).toNat)
  case atStart => exact ⟨0, Nat.zero_le _, rfl, ⟨by simp⟩, ⟨Below.refl _ _⟩⟩
  case round =>
    obtain ⟨q, hq, rfl, HA, HB⟩ := hrel
    by_cases hlt : q < xs.length
    · have h0 : (0 : Int) ≤ q := by omega
      have h1 : (q : Int) < xs.length := by omega
      obtain ⟨ad, A3, c3, e0, hx0, hx1, hx2, hx3⟩ := at_S28 (Kd.C_below HR.out HB.out) q hlt rfl
      cases e0
      have hwp : wrap64 ((q : Int) + 1) = (q : Int) + 1 := wrap_in (by omega) (by omega)
      have HX := Aside0.mk (shapes_next xs q hlt)
      have HM : Aside0 (xs[q] ∈ xs) := ⟨List.getElem_mem _⟩
      obtain ⟨x, hxx⟩ : ∃ x, x = xs[q] := ⟨_, rfl⟩
      rw [← hxx] at hx0 hx1 hx2 hx3 HX HM
      clear hxx
      obtain ⟨x0, x1, x2, x3⟩ := x
      replace hx0 : _ = some (Value.int .i64 x0) := hx0
      replace hx1 : _ = some (Value.int .i64 x1) := hx1
      replace hx2 : _ = some (Value.int .i64 x2) := hx2
      replace hx3 : _ = some (Value.slice A3 x3.length c3) := hx3
      have HXe : Aside0 (shapeF ⟨x0, x1, x2, x3⟩ = shapeS x0 x1) := ⟨rfl⟩
      obtain ⟨n3, hn3⟩ : ∃ n3, n3 = x3.length := ⟨_, rfl⟩
      rw [← hn3] at hx3
      clear hn3
      go_wp2_with fail
      refine (HN.out x0 x1 x2 A3 n3 c3 _).mono ?_
      rintro e w' ⟨rfl, hb⟩
      have HB2 := Aside0.mk (HB.out.trans (hb.mono HB.out.size))
      clear hb
      cases hn : shapeS x0 x1 with
      | true =>
        have HX2 : Aside0 ((xs.take (q + 1)).all shapeF = true) := ⟨by rw [HX.out, HA.out, HXe.out, hn]; rfl⟩
        simp only [Bool.not_true]
        go_wp2_with fail
        go_roundw
        case rel => exact ⟨q + 1, by omega, by go_num, HX2, HB2⟩
        case measure => simp [intOf]; omega
      | false =>
        have HF : Aside0 (xs.all shapeF = false) := ⟨by rw [Bool.eq_false_iff]; intro h; rw [List.all_eq_true] at h; have := h _ HM.out; rw [HXe.out, hn] at this; cases this⟩
        simp only [Bool.not_false]
        go_wp2_with fail
        go_ret
        exact ⟨_, rfl, by rw [HF.out, decide_eq_true h0]; rfl, HB2.out⟩
    · obtain rfl : q = xs.length := by omega
      rw [List.take_of_length_le (Nat.le_refl _)] at HA
      go_wp2_with fail
      go_ret
      exact ⟨_, rfl, by rw [HA.out]; rfl, HB.out⟩
theorem contains28_any (xs : List S28) (A : Option Addr) (c : Nat) (W : World) (hr : k28.C W A xs.length xs) : Calls Try.prog 38 #[.slice A xs.length c, .func (Fn.func 39) #[] #[]] W fun e w' => e = .returned (.bool (!xs.all shapeF)) ∧ Below W.heap.size W w' := by
  have HI := Aside0.mk (index28_any xs A c W hr)
  clear hr
  go_enter Try.func38, Try.ntmps38
  go_wp2_with fail
  refine HI.out.mono ?_
  rintro e w' ⟨i, rfl, hi, hb⟩
  have HE := Aside0.mk hi
  have HB := Aside0.mk hb
  clear hi hb
  go_wp2
  go_ret
  exact ⟨ret_b (by rw [← HE.out]), HB.out⟩
theorem shapes_any (xs : List S28) (A : Option Addr) (c : Nat) (W : World) (hr : k28.C W A xs.length xs) : Calls Try.prog 32 #[.slice A xs.length c] W fun e w' => e = .returned (.bool (xs.all shapeF)) ∧ Below W.heap.size W w' := by
  have HI := Aside0.mk (contains28_any xs A c W hr)
  clear hr
  go_enter Try.func32, Try.ntmps32
  go_wp2_with fail
  refine HI.out.mono ?_
  rintro e w' ⟨rfl, hb⟩
  have HB := Aside0.mk hb
  clear hb
  go_wp2
  go_ret
  exact ⟨ret_b (by simp), HB.out⟩
end Go.Proofs.Ytgemcomcjojjbaa.PS
