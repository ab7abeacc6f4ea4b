/- fixed of package fuguelaw09: it is true. No conditions. -/
import Derived.Test.YtgemcomcjojjbaaPSx3
import Derived.Test.YtgemcomcjojjbaaHEnc
namespace Go.Proofs.Ytgemcomcjojjbaa.PS
open Go.RowKit Go.Proofs.YtgemcomcjojjbaaW.PrintWords Go.Proofs.YtgemcomcjojjbaaW.PrintLast Go.Proofs.YtgemcomcjojjbaaW.PrintMore
set_option linter.unusedVariables false
set_option linter.unusedSimpArgs false

/-- A slice of one element, as it is built. -/
theorem lit_C {α : Type} {d : Kd α} {w : World} {x : α} {cs : Array Value} (e : TypeId) (hK : d.K w x cs.toList) (hs : 0 < d.sz) : d.C (w.alloc (.cells cs e)) (some ⟨w.heap.size, 0, none⟩) 1 [x] := by
  have hl := d.K_len hK
  have ho := World.ownsRow_lit (base := w.heap.size) (e := e) (size := d.sz) w cs 1 (Nat.le_refl _) (by simp [maxLen]) (by rw [Array.length_toList] at hl; omega)
  obtain ⟨A, c, he, hr⟩ := own_reads_row (R := d.K (w.alloc (.cells cs e))) (ps := [x]) (size := d.sz) ho ⟨by simp [Array.length_toList] at hl ⊢; omega, fun j p hj => by
    rcases j with _ | j
    · obtain rfl : x = p := by simpa using hj
      rw [Nat.zero_mul, List.drop_zero, List.take_of_length_le (by omega)]
      exact d.K_below (below_alloc (Below.refl _ _) _) hK
    · simp at hj⟩ rfl
  injection he with h1 h2 h3
  subst h1
  exact hr
theorem some_f : fuguelaw09_some.f = some (2, 1, 2, [], [0, 9], [[2], [9]]) := rfl
set_option maxHeartbeats 8000000 in
set_option maxRecDepth 100000 in
theorem fixed_any (W : World) : Calls Try.prog 8 #[] W fun e w' => e = .returned (.bool true) ∧ Below W.heap.size W w' := by
  go_enter Try.func8, Try.ntmps8
  go_wp2_with fail
  refine (fuguelaw09_some.calls 2 1 2 [] [0, 9] [[2], [9]] W some_f).mono ?_
  rintro e w0 ⟨v3, v4, v5, rfl, h3, h4, h5, hb⟩
  obtain ⟨A3, c3, rfl, l3, k3⟩ := Kd.N_reads h3
  obtain ⟨A4, c4, rfl, l4, k4⟩ := Kd.R_reads h4
  obtain ⟨A5, c5, rfl, l5, k5⟩ := Kd.N_reads h5
  have K3 := Aside0.mk k3
  have K4 := Aside0.mk k4
  have K5 := Aside0.mk k5
  have L3 := Aside0.mk l3
  have L4 := Aside0.mk l4
  have L5 := Aside0.mk l5
  have HB := Aside0.mk hb
  clear h3 h4 h5 k3 k4 k5 l3 l4 l5 hb
  go_wp2_with (first | ((with_reducible refine gate_dst (N := 1) rfl ?_); refine box_event ?hg (N := 1) ?hd (cs := #[.int .i64 0, .int .i64 0, .int .i64 0, .slice none 0 0]) (t := 28) ?hr ?_; (case hd => rfl); (case hg => rfl); (case hr => first | (go_simp; done) | (go_simp; rfl)); intro g1 hg w1 hbox hb; have BK1 := Aside0.mk hbox; have HB1 := Aside0.mk hb; have G1 := Aside0.mk hg; clear hg hbox hb) | ((with_reducible refine gate_dst (N := 2) rfl ?_); refine box_event ?hg (N := 2) ?hd (cs := #[.slice none 0 0, .slice none 0 0]) (t := 31) ?hr ?_; (case hd => rfl); (case hg => rfl); (case hr => first | (go_simp; done) | (go_simp; rfl)); intro g2 hg w2 hbox hb; have BK1_ := Aside0.mk (blk_below BK1.out hb); have BK2 := Aside0.mk hbox; have G2 := Aside0.mk hg; have BSz := Aside0.mk HB1.out.size; have HB2 := Aside0.mk (HB1.out.trans (hb.mono HB1.out.size)); clear HB1 BK1 hg hbox hb; have BK1 := BK1_; clear BK1_; have hne : g1 ≠ g2 := blk_ne BK1.out BK2.out (by decide); have hz0 : w2.cell? ⟨g1, 0, none⟩ = some (.int .i64 0) := (blk_cell BK1.out 0).trans rfl; have hz1 : w2.cell? ⟨g1, 1, none⟩ = some (.int .i64 0) := (blk_cell BK1.out 1).trans rfl; have hz2 : w2.cell? ⟨g1, 2, none⟩ = some (.int .i64 0) := (blk_cell BK1.out 2).trans rfl; have hz3 : w2.cell? ⟨g1, 3, none⟩ = some (.slice none 0 0) := (blk_cell BK1.out 3).trans rfl; have hy0 : w2.cell? ⟨g2, 0, none⟩ = some (.slice none 0 0) := (blk_cell BK2.out 0).trans rfl; have hy1 : w2.cell? ⟨g2, 1, none⟩ = some (.slice none 0 0) := (blk_cell BK2.out 1).trans rfl; have hf0 := blk_frozen BK1.out 0; have hf1 := blk_frozen BK1.out 1; have hf2 := blk_frozen BK1.out 2; have hf3 := blk_frozen BK1.out 3; have hf4 := blk_frozen BK2.out 0; have hf5 := blk_frozen BK2.out 1) | ((with_reducible refine gate_dst (N := 11) rfl ?_); refine Aside0.out ?_))
  obtain ⟨wS, hwS⟩ : ∃ wS, wS = ((((((w2.setCell ⟨g1, 0, none⟩ (.int .i64 2)).setCell ⟨g1, 1, none⟩ (.int .i64 1)).setCell ⟨g1, 2, none⟩ (.int .i64 2)).setCell ⟨g1, 3, none⟩ (.slice A3 0 c3)).setCell ⟨g2, 0, none⟩ (.slice A4 2 c4)).setCell ⟨g2, 1, none⟩ (.slice A5 2 c5)) := ⟨_, rfl⟩
  rw [← hwS]
  have e1 : ((((w2.setCell ⟨g1, 0, none⟩ (.int .i64 2)).setCell ⟨g1, 1, none⟩ (.int .i64 1)).setCell ⟨g1, 2, none⟩ (.int .i64 2)).setCell ⟨g1, 3, none⟩ (.slice A3 0 c3)).heap[g1]? = some (.cells #[.int .i64 2, .int .i64 1, .int .i64 2, .slice A3 0 c3] 28 (0, 0)) := (blk_set (blk_set (blk_set (blk_set BK1.out 0 _) 1 _) 2 _) 3 _).trans rfl
  have e2 : ((((w2.setCell ⟨g1, 0, none⟩ (.int .i64 2)).setCell ⟨g1, 1, none⟩ (.int .i64 1)).setCell ⟨g1, 2, none⟩ (.int .i64 2)).setCell ⟨g1, 3, none⟩ (.slice A3 0 c3)).heap[g2]? = some (.cells #[.slice none 0 0, .slice none 0 0] 31 (0, 0)) := blk_far (blk_far (blk_far (blk_far BK2.out hne.symm _) hne.symm _) hne.symm _) hne.symm _
  have E1 : Aside0 (wS.heap[g1]? = some (.cells #[.int .i64 2, .int .i64 1, .int .i64 2, .slice A3 0 c3] 28 (0, 0))) := ⟨by rw [hwS]; exact blk_far (blk_far e1 hne _) hne _⟩
  have E2 : Aside0 (wS.heap[g2]? = some (.cells #[.slice A4 2 c4, .slice A5 2 c5] 31 (0, 0))) := ⟨by rw [hwS]; exact (blk_set (blk_set e2 0 _) 1 _).trans rfl⟩
  have hg1 : w0.heap.size ≤ g1 := by rw [G1.out]; exact Nat.le_refl _
  have hg2 : w0.heap.size ≤ g2 := by rw [G2.out]; exact BSz.out
  have EB : Aside0 (Below w0.heap.size w0 wS) := ⟨by rw [hwS]; exact below_set (below_set (below_set (below_set (below_set (below_set HB2.out hg1) hg1) hg1) hg1) hg2) hg2⟩
  clear e1 e2 hwS hz0 hz1 hz2 hz3 hy0 hy1 hf0 hf1 hf2 hf3 hf4 hf5 hne HB2 BK1 BK2 G1 G2 hg1 hg2 BSz
  refine ⟨?_⟩
  have hz0 : wS.cell? ⟨g1, 0, none⟩ = some (.int .i64 2) := (blk_cell E1.out 0).trans rfl
  have hz1 : wS.cell? ⟨g1, 1, none⟩ = some (.int .i64 1) := (blk_cell E1.out 1).trans rfl
  have hz2 : wS.cell? ⟨g1, 2, none⟩ = some (.int .i64 2) := (blk_cell E1.out 2).trans rfl
  have hz3 : wS.cell? ⟨g1, 3, none⟩ = some (.slice A3 0 c3) := (blk_cell E1.out 3).trans rfl
  have hy0 : (wS.alloc (.cells #[.int .i64 2, .int .i64 1, .int .i64 2, .slice A3 0 c3] 28)).cell? ⟨g2, 0, none⟩ = some (.slice A4 2 c4) := (blk_cell (blk_alloc E2.out _) 0).trans rfl
  have hy1 : (wS.alloc (.cells #[.int .i64 2, .int .i64 1, .int .i64 2, .slice A3 0 c3] 28)).cell? ⟨g2, 1, none⟩ = some (.slice A5 2 c5) := (blk_cell (blk_alloc E2.out _) 1).trans rfl
  go_wp2_with fail
  clear hz0 hz1 hz2 hz3 hy0 hy1
  have HKf : Aside0 (k28.C (wS.alloc (.cells #[.int .i64 2, .int .i64 1, .int .i64 2, .slice A3 0 c3] 28)) (some ⟨wS.heap.size, 0, none⟩) 1 [(⟨2, 1, 2, []⟩ : S28)]) := ⟨lit_C (d := k28) (x := (⟨2, 1, 2, []⟩ : S28)) (cs := #[.int .i64 2, .int .i64 1, .int .i64 2, .slice A3 0 c3]) 28 (k28_mk wS (⟨2, 1, 2, []⟩ : S28) L3.out (Kd.C_below K3.out EB.out)) (by decide)⟩
  have HKs : Aside0 (k31.C ((wS.alloc (.cells #[.int .i64 2, .int .i64 1, .int .i64 2, .slice A3 0 c3] 28)).alloc (.cells #[.slice A4 2 c4, .slice A5 2 c5] 31)) (some ⟨wS.heap.size + 1, 0, none⟩) 1 [(⟨[0, 9], [[2], [9]]⟩ : S31)]) := ⟨by
    have h := lit_C (d := k31) (w := wS.alloc (.cells #[.int .i64 2, .int .i64 1, .int .i64 2, .slice A3 0 c3] 28)) (x := (⟨[0, 9], [[2], [9]]⟩ : S31)) (cs := #[.slice A4 2 c4, .slice A5 2 c5]) 31 (k31_mk _ (⟨[0, 9], [[2], [9]]⟩ : S31) L4.out (Kd.C_alloc (Kd.C_below K4.out EB.out) _) L5.out (Kd.C_alloc (Kd.C_below K5.out EB.out) _)) (by decide)
    rw [show (wS.alloc (.cells #[.int .i64 2, .int .i64 1, .int .i64 2, .slice A3 0 c3] 28)).heap.size = wS.heap.size + 1 from by simp] at h
    exact h⟩
  refine (enc_any [⟨2, 1, 2, []⟩] [⟨[0, 9], [[2], [9]]⟩] (some ⟨wS.heap.size, 0, none⟩) 1 (some ⟨wS.heap.size + 1, 0, none⟩) 1 _ (Kd.C_alloc HKf.out _) HKs.out (by decide)).mono ?_
  rintro e w5 ⟨v, rfl, hR, hb⟩
  have hE : encErr [⟨2, 1, 2, []⟩] [⟨[0, 9], [[2], [9]]⟩] = 0 := by decide
  have hO : encOut [⟨2, 1, 2, []⟩] [⟨[0, 9], [[2], [9]]⟩] = [0, 2, 9, 9] := by decide
  rw [hE]
  rw [hO] at hR
  obtain ⟨A6, c6, rfl, l6, k6⟩ := Kd.R_reads hR
  have K6 := Aside0.mk k6
  have L6 := Aside0.mk l6
  have BS := Aside0.mk (below_then (below_alloc (below_alloc (Below.refl wS.heap.size wS) (.cells #[.int .i64 2, .int .i64 1, .int .i64 2, .slice A3 0 c3] 28)) (.cells #[.slice A4 2 c4, .slice A5 2 c5] 31)) (by simp; omega) hb)
  clear hE hO hR k6 l6 hb HKf HKs
  go_wp2_with fail
  have hlit : kB.C (w5.alloc (.cells #[.int .u8 0, .int .u8 2, .int .u8 9, .int .u8 9] 5)) (some ⟨w5.heap.size, 0, none⟩) 4 [0, 2, 9, 9] := by
    have ho := World.ownsRow_lit (base := w5.heap.size) (e := 5) (size := 1) w5 #[.int .u8 0, .int .u8 2, .int .u8 9, .int .u8 9] 4 (Nat.le_refl _) (by simp [maxLen]) (by simp)
    obtain ⟨_, c, he, hr⟩ := Kd.R_reads (Kd.R_of_own (enc := Value.int .u8) (h1 := fun _ => rfl) (xs := [0, 2, 9, 9]) (ok := fun _ => True) ho (fun _ _ => trivial))
    injection he with h1 h2 h3
    subst h1
    exact hr.2
  refine (fugueref00_EqBytes.calls 10 A6 c6 [0, 2, 9, 9] _ 4 [0, 2, 9, 9] true _ (Kd.C_alloc K6.out _) L6.out hlit (by decide) (by kernel_rfl)).mono ?_
  rintro e w6 ⟨rfl, hd⟩
  have B6 := Aside0.mk (BS.out.trans (((below_alloc (Below.refl w5.heap.size w5) _).trans (hd.below.mono (by simp))).mono BS.out.size))
  clear hd hlit
  have hz0 : w6.cell? ⟨g1, 0, none⟩ = some (.int .i64 2) := (blk_cell (blk_below E1.out B6.out) 0).trans rfl
  have hz1 : w6.cell? ⟨g1, 1, none⟩ = some (.int .i64 1) := (blk_cell (blk_below E1.out B6.out) 1).trans rfl
  have hz2 : w6.cell? ⟨g1, 2, none⟩ = some (.int .i64 2) := (blk_cell (blk_below E1.out B6.out) 2).trans rfl
  have hz3 : w6.cell? ⟨g1, 3, none⟩ = some (.slice A3 0 c3) := (blk_cell (blk_below E1.out B6.out) 3).trans rfl
  have hy0 : w6.cell? ⟨g2, 0, none⟩ = some (.slice A4 2 c4) := (blk_cell (blk_below E2.out B6.out) 0).trans rfl
  have hy1 : w6.cell? ⟨g2, 1, none⟩ = some (.slice A5 2 c5) := (blk_cell (blk_below E2.out B6.out) 1).trans rfl
  go_wp2_with fail
  refine (check_any 2 1 2 A3 0 c3 ⟨[0, 9], [[2], [9]]⟩ A4 c4 A5 c5 _ (Kd.C_below K4.out (EB.out.trans (B6.out.mono EB.out.size))) L4.out (Kd.C_below K5.out (EB.out.trans (B6.out.mono EB.out.size))) L5.out).mono ?_
  rintro e w7 ⟨rfl, hb⟩
  have hC : checkS 2 1 ⟨[0, 9], [[2], [9]]⟩ = 0 := by decide
  rw [hC]
  have B7 := Aside0.mk (HB.out.trans ((EB.out.trans ((B6.out.trans (hb.mono B6.out.size)).mono EB.out.size)).mono HB.out.size))
  clear hC hb hz0 hz1 hz2 hz3 hy0 hy1
  go_wp2_with fail
  go_ret
  exact ⟨rfl, B7.out⟩
end Go.Proofs.Ytgemcomcjojjbaa.PS
