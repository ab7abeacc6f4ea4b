/- The walk of the law on refused summaries (printed by wip/sums/gensr.py, case H). No conditions. -/
import Derived.Test.YtgemcomcjojjbaaHRefP
namespace Go.Proofs.Ytgemcomcjojjbaa.PS
open Go.RowKit Go.Proofs.YtgemcomcjojjbaaW.PrintWords Go.Proofs.YtgemcomcjojjbaaW.PrintLast Go.Proofs.YtgemcomcjojjbaaW.PrintMore
set_option linter.unusedVariables false
set_option linter.unusedSimpArgs false

def TAB_4.T18 : Bool × List (List Nat × List Nat) := (true, [([], []), ([0], [0]), ([], []), ([], []), ([3], [3]), ([], []), ([4, 5], [4, 5]), ([6], [6]), ([], []), ([7, 8], [7, 8]), ([1, 2, 0, 1, 2, 3, 4, 5, 6, 7, 8, 9], [1, 2]), ([10, 9, 9, 0, 1, 2, 3, 4, 5, 6, 7, 8, 9], [9, 10])])
def TAB_4.B18 : List Nat := [0, 1, 0, 0, 8, 0, 56, 120, 0, 504, 1023, 2047]
theorem TAB_4.tab18 : rtab .any (opsOf Try.f4 18) = TAB_4.T18 := by kernel_rfl
theorem TAB_4.bits18 : waitsOk TAB_4.T18.2 TAB_4.B18 = true := by kernel_rfl
set_option maxHeartbeats 80000000 in
set_option maxRecDepth 100000 in
theorem ref_walkH (p r n z : Int) (la lb lc : List Int) (A B C : Option Addr) (ca_ cb_ cc_ : Nat) (Pn Rn kn : Nat) (s : S31) (k1 : Nat) (may b0 b3 b9 : Bool) (W : World) (hA : kI.C W A la.length la) (lA : la.length ≤ ca_)
    (e1 : fuguelaw09_shaped.f k1 p r la = some ((Pn : Int), (Rn : Int), 0, [], s.f0, s.f1)) (hs : shapeS (Pn : Int) (Rn : Int) = true) (rs : rightS (Pn : Int) (Rn : Int) s = true) (hP : 0 < Pn) (hk : kn < Pn * (Rn + 1)) (hmod : fuguelaw09_mod.f n ((Pn * (Rn + 1) : Nat) : Int) = some (kn : Int)) (hj : kn % (Rn + 1) = 0)
    (h0 : decide (z ≥ 0) = b0) (h3 : decide (z ≤ 3) = b3) (h9 : (z == 9) = b9) (hm : isN z = may) (hb : (b0 = false ∧ b9 = false ∧ may = false) ∨ (b0 = true ∧ b3 = true ∧ may = true) ∨ (b0 = true ∧ b3 = false ∧ b9 = false ∧ may = false) ∨ (b0 = true ∧ b3 = false ∧ b9 = true ∧ may = true)) :
    Calls Try.prog 4 #[.agg #[.int .i64 p, .int .i64 r, .slice A la.length ca_, .slice B lb.length cb_, .slice C lc.length cc_], .int .i64 n, .int .i64 z] W fun e w' => e = .returned (.bool true) ∧ Below W.heap.size W w' := by
  obtain ⟨hl8, hl1, hlP, hl4⟩ := right_lens rs hs
  obtain ⟨P, hPe⟩ : ∃ P, P = (Pn : Int) := ⟨_, rfl⟩
  obtain ⟨R, hRe⟩ : ∃ R, R = (Rn : Int) := ⟨_, rfl⟩
  have hR4 : Rn ≤ 4 := by simp only [shapeS, Bool.and_eq_true, decide_eq_true_eq] at hs; omega
  have hP8 : Pn ≤ 8 := by omega
  obtain ⟨K, hK⟩ : ∃ K, K = Pn * (Rn + 1) := ⟨_, rfl⟩
  have hK40 : K ≤ 40 := by rw [hK]; have := Nat.mul_le_mul hP8 (show Rn + 1 ≤ 5 by omega); omega
  have hKP : P * (R + 1) = (K : Int) := by rw [hPe, hRe, hK, Int.natCast_mul, Int.natCast_add]; rfl
  have Hw1 : Aside0 (wrap64 (R + 1) = R + 1) := ⟨wrap_in (by omega) (by omega)⟩
  have Hw2 : Aside0 (wrap64 (P * (R + 1)) = (K : Int)) := ⟨by rw [hKP]; exact wrap_in (by omega) (by omega)⟩
  obtain ⟨i, hi⟩ : ∃ i, i = kn / (Rn + 1) := ⟨_, rfl⟩
  obtain ⟨j, hjj⟩ : ∃ j, j = kn % (Rn + 1) := ⟨_, rfl⟩
  have hiP : i < Pn := by rw [hi]; exact Nat.div_lt_of_lt_mul (by rw [Nat.mul_comm]; exact hk)
  have hjR : j < Rn + 1 := by rw [hjj]; exact Nat.mod_lt _ (by omega)
  have hk40 : kn < 40 := by omega
  have Hq : Aside0 (wrap64 (Int.tdiv (kn : Int) (R + 1)) = (i : Int)) := ⟨by rw [hRe, show ((Rn : Int) + 1) = ((Rn + 1 : Nat) : Int) by omega, ← Int.ofNat_tdiv, ← hi]; exact wrap_in (by omega) (by omega)⟩
  have Hr : Aside0 (Int.tmod (kn : Int) (R + 1) = (j : Int)) := ⟨by rw [hRe, show ((Rn : Int) + 1) = ((Rn + 1 : Nat) : Int) by omega, ← Int.ofNat_tmod, ← hjj]⟩
  have Hq2 : Aside0 (wrap64 ((kn : Int) / (R + 1)) = (i : Int)) := ⟨by rw [hRe, show ((Rn : Int) + 1) = ((Rn + 1 : Nat) : Int) by omega, ← Int.natCast_ediv, ← hi]; exact wrap_in (by omega) (by omega)⟩
  have Hr2 : Aside0 ((kn : Int) % (R + 1) = (j : Int)) := ⟨by rw [hRe, show ((Rn : Int) + 1) = ((Rn + 1 : Nat) : Int) by omega, ← Int.natCast_emod, ← hjj]⟩
  have HMod : Aside0 (∀ w, Calls Try.prog 15 #[.int .i64 n, .int .i64 (K : Int)] w fun e w' => e = .returned (.int .i64 (kn : Int)) ∧ Drawn0 w w') := ⟨fun w => fuguelaw09_mod.calls n K kn w (by rw [hK]; exact hmod)⟩
  rw [← hPe, ← hRe] at e1 hs rs
  have HSh := Aside0.mk hs
  have HRs := Aside0.mk rs
  have HFx := Aside0.mk fixed_any
  have HCs := Aside0.mk hA
  have HLs := Aside0.mk lA
  have He1 := Aside0.mk e1
  have HW := Aside0.mk (Below.refl W.heap.size W)
  have HI : Aside0 (i < s.f0.length ∧ i < s.f1.length) := ⟨by omega, by omega⟩
  have HJ := Aside0.mk hjR
  have HRn := Aside0.mk hRe
  have HR4 := Aside0.mk hR4
  have HPn := Aside0.mk hPe
  have HP8 := Aside0.mk hP8
  have hP0 : (P == 0) = false := by rw [beq_eq_false_iff_ne]; omega
  have hR1 : ¬ (R + 1 = 0) := by omega
  have hj0 : ((j : Int) == 0) = true := by rw [beq_iff_eq]; omega
  have HL := Aside0.mk hlP
  have HL1 := Aside0.mk hl1
  have Hm := Aside0.mk hm
  skip
  clear hl8 hl1 hlP hl4 hP hk hmod hj hs rs e1 hA lA hR4 hP8 hK hK40 hKP hi hjj hiP hjR hk40 hPe hRe hm
  have hw1 := Hw1.out
  have hw2 := Hw2.out
  have hq := Hq.out
  have hr := Hr.out
  have hq2 := Hq2.out
  have hr2 := Hr2.out
  clear Hw1 Hw2 Hq Hr Hq2 Hr2
  go_enter Try.func4, Try.ntmps4
  go_wp2_with ((with_reducible refine gate_dst (N := 3) rfl ?_); refine box_event ?hg (N := 3) ?hd (cs := #[.int .i64 p, .int .i64 r, .slice A la.length ca_, .slice B lb.length cb_, .slice C lc.length cc_]) (t := 24) ?hr ?_; (case hd => rfl); (case hg => rfl); (case hr => first | (go_simp; done) | (go_simp; rfl)); intro g3 hg w_0 hbox hb; have BX := Aside0.mk hbox; have HW_ := Aside0.mk (HW.out.trans (hb.mono HW.out.size)); clear HW hg hbox hb; have HW := HW_; clear HW_)
  refine (HFx.out _).mono ?_
  rintro e w_1 ⟨rfl, hb⟩
  have BX_ := Aside0.mk (blk_below BX.out hb)
  have HW_ := Aside0.mk (HW.out.trans (hb.mono HW.out.size))
  clear BX HW
  have BX := BX_
  have HW := HW_
  clear BX_ HW_
  clear hb HFx
  go_wp2_with ((with_reducible refine gate_dst (N := 25) rfl ?_); refine Aside0.out ?_)
  refine ⟨?_⟩
  have hx0 : _ = some (Value.int .i64 p) := (blk_cell BX.out 0).trans rfl
  have hx1 : _ = some (Value.int .i64 r) := (blk_cell BX.out 1).trans rfl
  have hx2 : _ = some (Value.slice A la.length ca_) := (blk_cell BX.out 2).trans rfl
  go_wp2_with fail
  refine (shapedC (S := s) A ca_ _ (Kd.C_below HCs.out HW.out) HLs.out He1.out).mono ?_
  rintro e w_2 ⟨Fs, fs, As, cs, Bs, ds, rfl, l0, k0, l1, k1, hb⟩
  clear hx0 hx1 hx2
  have BX_ := Aside0.mk (blk_below BX.out hb)
  have HW_ := Aside0.mk (HW.out.trans (hb.mono HW.out.size))
  clear BX HW
  have BX := BX_
  have HW := HW_
  clear BX_ HW_
  clear hb
  have Hl0 := Aside0.mk l0
  have Hl1 := Aside0.mk l1
  have Hk0 := Aside0.mk k0
  have Hk1 := Aside0.mk k1
  clear l0 l1 k0 k1
  go_wp2_with (first | ((with_reducible refine gate_dst (N := 8) rfl ?_); refine box_event ?hg (N := 8) ?hd (cs := #[.int .i64 0, .int .i64 0, .int .i64 0, .slice none 0 0]) (t := 28) ?hr ?_; (case hd => rfl); (case hg => rfl); (case hr => first | (go_simp; done) | (go_simp; rfl)); intro g8 hg w_3 hbox hb; have HG1 := Aside0.mk hg; have HB1 := Aside0.mk hb; have BK1 := Aside0.mk hbox; clear hg hbox hb) | ((with_reducible refine gate_dst (N := 9) rfl ?_); refine box_event ?hg (N := 9) ?hd (cs := #[.slice none 0 0, .slice none 0 0]) (t := 31) ?hr ?_; (case hd => rfl); (case hg => rfl); (case hr => first | (go_simp; done) | (go_simp; rfl)); intro g9 hg w_4 hbox hb; have HG2 : Aside0 (w_2.heap.size ≤ g9) := ⟨by rw [hg]; exact HB1.out.size⟩; have HB2 := Aside0.mk (HB1.out.trans (hb.mono HB1.out.size)); have BK1_ := Aside0.mk (blk_below BK1.out hb); have BK2 := Aside0.mk hbox; clear hg hbox hb BK1 HB1; have BK1 := BK1_; clear BK1_; have hne : g8 ≠ g9 := blk_ne BK1.out BK2.out (by decide); have hz0 : w_4.cell? ⟨g8, 0, none⟩ = some (.int .i64 0) := (blk_cell BK1.out 0).trans rfl; have hf0 := blk_frozen BK1.out 0; have hz1 : w_4.cell? ⟨g8, 1, none⟩ = some (.int .i64 0) := (blk_cell BK1.out 1).trans rfl; have hf1 := blk_frozen BK1.out 1; have hz2 : w_4.cell? ⟨g8, 2, none⟩ = some (.int .i64 0) := (blk_cell BK1.out 2).trans rfl; have hf2 := blk_frozen BK1.out 2; have hz3 : w_4.cell? ⟨g8, 3, none⟩ = some (.slice none 0 0) := (blk_cell BK1.out 3).trans rfl; have hf3 := blk_frozen BK1.out 3; have hz4 : w_4.cell? ⟨g9, 0, none⟩ = some (.slice none 0 0) := (blk_cell BK2.out 0).trans rfl; have hf4 := blk_frozen BK2.out 0; have hz5 : w_4.cell? ⟨g9, 1, none⟩ = some (.slice none 0 0) := (blk_cell BK2.out 1).trans rfl; have hf5 := blk_frozen BK2.out 1) | ((with_reducible refine gate_dst (N := 34) rfl ?_); refine Aside0.out ?_))
  clear hne hz0 hf0 hz1 hf1 hz2 hf2 hz3 hf3 hz4 hf4 hz5 hf5
  obtain ⟨hb1, hb2, hb⟩ := two_stored (x0 := .int .i64 P) (x1 := .int .i64 R) (x2 := .int .i64 0) (x3 := .slice Fs 0 fs) (x4 := .slice As s.f0.length cs) (x5 := .slice Bs s.f1.length ds) BK1.out BK2.out HB2.out (Nat.le_of_eq HG1.out.symm) HG2.out
  obtain ⟨w_5, hw⟩ : ∃ w, w = ((((((w_4.setCell ⟨g8, 0, none⟩ (.int .i64 P)).setCell ⟨g8, 1, none⟩ (.int .i64 R)).setCell ⟨g8, 2, none⟩ (.int .i64 0)).setCell ⟨g8, 3, none⟩ (.slice Fs 0 fs)).setCell ⟨g9, 0, none⟩ (.slice As s.f0.length cs)).setCell ⟨g9, 1, none⟩ (.slice Bs s.f1.length ds)) := ⟨_, rfl⟩
  rw [← hw] at hb1 hb2 hb ⊢
  clear hw
  have BX_ := Aside0.mk (blk_below BX.out hb)
  have HW_ := Aside0.mk (HW.out.trans (hb.mono HW.out.size))
  clear BX HW
  have BX := BX_
  have HW := HW_
  clear BX_ HW_
  have HSs : Aside0 (SumC w_5 g9 As cs Bs ds s) := ⟨⟨hb2, Hl0.out, Kd.C_below Hk0.out hb, Hl1.out, Kd.C_below Hk1.out hb⟩⟩
  have BF := Aside0.mk hb1
  clear hb1 hb2 hb Hl0 Hl1 Hk0 Hk1 BK1 BK2 HB2 HG1 HG2
  clear BX HCs HLs He1
  refine ⟨?_⟩
  have hz0 : _ = some (Value.int .i64 P) := (blk_cell BF.out 0).trans rfl
  have hz1 : _ = some (Value.int .i64 R) := (blk_cell BF.out 1).trans rfl
  have hz2 : _ = some (Value.int .i64 0) := (blk_cell BF.out 2).trans rfl
  have hz3 : _ = some (Value.slice Fs 0 fs) := (blk_cell BF.out 3).trans rfl
  go_wp2_with ((with_reducible refine gate_dst (N := 38) rfl ?_); refine Aside0.out ?_)
  clear hz0 hz1 hz2 hz3
  have HS0 := Aside0.mk HSs.out
  have HF0 := Aside0.mk BF.out
  have HW0 := Aside0.mk HW.out.size
  have HZ := Aside0.mk (Below.refl w_5.heap.size w_5)
  refine ⟨?_⟩
  have hx0 := HSs.out.cell0
  have hx1 := HSs.out.cell1
  go_wp2_with fail
  refine (copyC HSs.out HRs.out HSh.out).mono ?_
  rintro e w_6 ⟨At, ct, Bt, dt, rfl, hr0, hr1, hb⟩
  clear hx0 hx1
  have HW_ := Aside0.mk (HW.out.trans (hb.mono HW.out.size))
  have BF_ := Aside0.mk (blk_below BF.out hb)
  have HSs_ := Aside0.mk (HSs.out.below hb)
  have HZ_ := Aside0.mk (HZ.out.trans (hb.mono HZ.out.size))
  clear HW BF HSs HZ
  have HW := HW_
  have BF := BF_
  have HSs := HSs_
  have HZ := HZ_
  clear HW_ BF_ HSs_ HZ_
  clear hb
  have HGz := Aside0.mk HZ.out.size
  have HRx := Aside0.mk hr0
  have HRy := Aside0.mk hr1
  clear hr0 hr1
  go_wp2_with (first | ((with_reducible refine gate_dst (N := 10) rfl ?_); refine box_event ?hg (N := 10) ?hd (cs := #[.slice none 0 0, .slice none 0 0]) (t := 31) ?hr ?_; (case hd => rfl); (case hg => rfl); (case hr => first | (go_simp; done) | (go_simp; rfl)); intro g10 hg w_7 hbox hb; have HG := Aside0.mk hg; have HBx := Aside0.mk hb; have BKx := Aside0.mk hbox; have hz0 : w_7.cell? ⟨g10, 0, none⟩ = some (.slice none 0 0) := (blk_cell BKx.out 0).trans rfl; have hz1 : w_7.cell? ⟨g10, 1, none⟩ = some (.slice none 0 0) := (blk_cell BKx.out 1).trans rfl; have hf0 := blk_frozen BKx.out 0; have hf1 := blk_frozen BKx.out 1; clear hg hbox hb) | ((with_reducible refine gate_dst (N := 41) rfl ?_); refine Aside0.out ?_))
  clear hz0 hz1 hf0 hf1
  have BKt : Aside0 (((w_7.setCell ⟨g10, 0, none⟩ (.slice At s.f0.length ct)).setCell ⟨g10, 1, none⟩ (.slice Bt s.f1.length dt)).heap[g10]? = some (.cells #[.slice At s.f0.length ct, .slice Bt s.f1.length dt] 31 (0, 0))) := ⟨(blk_set (blk_set BKx.out 0 _) 1 _).trans rfl⟩
  have hb : Below w_6.heap.size w_6 ((w_7.setCell ⟨g10, 0, none⟩ (.slice At s.f0.length ct)).setCell ⟨g10, 1, none⟩ (.slice Bt s.f1.length dt)) := below_set (below_set HBx.out (Nat.le_of_eq HG.out.symm)) (Nat.le_of_eq HG.out.symm)
  obtain ⟨w_8, hw⟩ : ∃ w, w = ((w_7.setCell ⟨g10, 0, none⟩ (.slice At s.f0.length ct)).setCell ⟨g10, 1, none⟩ (.slice Bt s.f1.length dt)) := ⟨_, rfl⟩
  rw [← hw] at BKt hb ⊢
  clear hw
  have HW_ := Aside0.mk (HW.out.trans (hb.mono HW.out.size))
  have BF_ := Aside0.mk (blk_below BF.out hb)
  have HSs_ := Aside0.mk (HSs.out.below hb)
  have HZ_ := Aside0.mk (HZ.out.trans (hb.mono HZ.out.size))
  clear HW BF HSs HZ
  have HW := HW_
  have BF := BF_
  have HSs := HSs_
  have HZ := HZ_
  clear HW_ BF_ HSs_ HZ_
  have HXt := Aside0.mk (Kd.R_below HRx.out hb)
  have HYt := Aside0.mk (Kd.S_below HRy.out hb)
  clear hb HRx HRy HBx BKx
  clear HG
  obtain ⟨gA, capA, eA, hgA, _⟩ := Kd.R_form HXt.out (by have := HI.out; omega)
  injection eA with eA _ eC
  subst eA
  obtain rfl : ct = capA := eC
  have HGA := Aside0.mk hgA
  clear hgA
  obtain ⟨gS, inner, f_, eS, hRW⟩ := rows_of_S HYt.out (by have := HI.out; omega)
  subst eS
  have HRW := Aside0.mk hRW
  clear hRW
  have HXt_ := Aside0.mk (Kd.R_tight rfl HXt.out)
  clear HXt
  have HXt := HXt_
  clear HXt_
  refine ⟨?_⟩
  have hz0 : _ = some (Value.int .i64 P) := (blk_cell BF.out 0).trans rfl
  have hz1 : _ = some (Value.int .i64 R) := (blk_cell BF.out 1).trans rfl
  have hz2 : _ = some (Value.int .i64 0) := (blk_cell BF.out 2).trans rfl
  have hz3 : _ = some (Value.slice Fs 0 fs) := (blk_cell BF.out 3).trans rfl
  go_wp2_with fail
  refine (HMod.out _).mono ?_
  rintro e w_9 ⟨rfl, hd⟩
  have hb := hd.below
  clear hz0 hz1 hz2 hz3
  have HW_ := Aside0.mk (HW.out.trans (hb.mono HW.out.size))
  have BF_ := Aside0.mk (blk_below BF.out hb)
  have HSs_ := Aside0.mk (HSs.out.below hb)
  have HZ_ := Aside0.mk (HZ.out.trans (hb.mono HZ.out.size))
  have BKt_ := Aside0.mk (blk_below BKt.out hb)
  clear HW BF HSs HZ BKt
  have HW := HW_
  have BF := BF_
  have HSs := HSs_
  have HZ := HZ_
  have BKt := BKt_
  clear HW_ BF_ HSs_ HZ_ BKt_
  have HXt_ := Aside0.mk (Kd.R_below HXt.out hb)
  have HYt_ := Aside0.mk (Kd.S_below HYt.out hb)
  have HRW_ := Aside0.mk (HRW.out.below hb)
  clear HXt HYt HRW hb hd
  have HXt := HXt_
  have HYt := HYt_
  have HRW := HRW_
  clear HXt_ HYt_ HRW_
  have hz0 : _ = some (Value.int .i64 P) := (blk_cell BF.out 0).trans rfl
  have hz1 : _ = some (Value.int .i64 R) := (blk_cell BF.out 1).trans rfl
  have hz2 : _ = some (Value.int .i64 0) := (blk_cell BF.out 2).trans rfl
  have hz3 : _ = some (Value.slice Fs 0 fs) := (blk_cell BF.out 3).trans rfl
  have hi0 : (0 : Int) ≤ i := by omega
  have hi1 : (i : Int) < s.f0.length := by have := HI.out.1; omega
  have hi2 : (i : Int) < s.f1.length := by have := HI.out.2; omega
  have hx0 : _ = some (Value.slice (some ⟨gA, 0, none⟩) s.f0.length ct) := (blk_cell BKt.out 0).trans rfl
  have hx1 : _ = some (Value.slice (some ⟨gS, 0, none⟩) s.f1.length dt) := (blk_cell BKt.out 1).trans rfl
  rcases hb with ⟨rfl, rfl, rfl⟩ | ⟨rfl, rfl, rfl⟩ | ⟨rfl, rfl, rfl, rfl⟩ | ⟨rfl, rfl, rfl, rfl⟩
  all_goals
    have hc := Kd.R_celln 0 HXt.out (i : Int) hi0 hi1
    rw [Int.toNat_natCast] at hc
    have hc0 := hc.1
    have hc1 := hc.2
    clear hc
    go_wp2_with ((with_reducible refine gate_dst (N := 88) rfl ?_); refine Aside0.out ?_)
    clear hc0 hc1 hx0 hx1
    clear hz0 hz1 hz2 hz3
    have hput := Kd.R_putn HXt.out (i : Int) z
    rw [Int.toNat_natCast] at hput
    have NA := Kd.R_ne HXt.out BKt.out (by decide)
    have NA' : g10 ≠ gA := fun e => NA (by rw [e]; rfl)
    have hT := put_head HRs.out i HI.out.1 z
    obtain ⟨T, hTe⟩ : ∃ T, T = (⟨s.f0.set i z, s.f1⟩ : S31) := ⟨_, rfl⟩
    have HST : Aside0 (SumC (w_9.setCell ⟨gA, i, none⟩ (.int .i64 z)) g10 (some ⟨gA, 0, none⟩) ct (some ⟨gS, 0, none⟩) dt T) := ⟨by
      rw [hTe]
      have r0 := Kd.R_reads' hput
      have r1 := Kd.S_reads' (Kd.S_far (p := ⟨gA, i, none⟩) HYt.out (fun k hk e => hk (by have e' : k = gA := e; rw [e']; rfl)) (.int .i64 z))
      rw [List.length_set] at r0
      exact ⟨by show _ = some (Obj.cells #[Value.slice _ (s.f0.set i z).length _, _] 31 (0, 0)); rw [List.length_set]; exact blk_far BKt.out NA' _, by show (s.f0.set i z).length ≤ _; rw [List.length_set]; exact r0.2.1, by show kI.C _ _ (s.f0.set i z).length (s.f0.set i z); rw [List.length_set]; exact r0.2.2, r1.2.1, r1.2.2⟩⟩
    have HZ_ : Aside0 (Below w_5.heap.size w_5 (w_9.setCell ⟨gA, i, none⟩ (.int .i64 z))) := ⟨below_set HZ.out HGA.out⟩
    have HW_ : Aside0 (Below W.heap.size W (w_9.setCell ⟨gA, i, none⟩ (.int .i64 z))) := ⟨below_set HW.out (Nat.le_trans HW0.out HGA.out)⟩
    rw [← hTe] at hT
    have HTs := Aside0.mk hT.1
    have HTn : Aside0 (numsS T = _) := ⟨hT.2.trans Hm.out⟩
    obtain ⟨w_10, hw⟩ : ∃ w, w = (w_9.setCell ⟨gA, i, none⟩ (.int .i64 z)) := ⟨_, rfl⟩
    rw [← hw] at HST HZ_ HW_ ⊢
    clear hw hT hTe hput NA NA' HZ HW HXt HYt HRW BKt HSs BF
    have HZ := HZ_
    have HW := HW_
    clear HZ_ HW_
    have HSs := Aside0.mk (HS0.out.below HZ.out)
    have BF := Aside0.mk (blk_below HF0.out HZ.out)
    clear HZ HS0 HF0 HGA
    have HSms := Aside0.mk (shaped_small (right_shaped HRs.out).1 HSh.out)
    have HSmT := Aside0.mk (shaped_small HTs.out HSh.out)
    have HTr : Aside0 (rightS P R T = _) := ⟨(shaped_right HTs.out).trans HTn.out⟩
    have HTb : Aside0 (bothS T s = _) := ⟨(both_shaped HTs.out HRs.out).trans HTn.out⟩
    have HTa : Aside0 (aboveS T T = _) := ⟨(above_self HTs.out).trans HTn.out⟩
    refine ⟨?_⟩
    have hz0 : _ = some (Value.int .i64 P) := (blk_cell BF.out 0).trans rfl
    have hz1 : _ = some (Value.int .i64 R) := (blk_cell BF.out 1).trans rfl
    have hz2 : _ = some (Value.int .i64 0) := (blk_cell BF.out 2).trans rfl
    have hz3 : _ = some (Value.slice Fs 0 fs) := (blk_cell BF.out 3).trans rfl
    have hx0 : (World.alloc _ (.cells #[.int .i64 P, .int .i64 R, .int .i64 0, .slice Fs 0 fs] 28)).cell? ⟨g10, 0, none⟩ = some _ := (blk_cell (blk_alloc HST.out.blk (.cells #[.int .i64 P, .int .i64 R, .int .i64 0, .slice Fs 0 fs] 28)) 0).trans rfl
    have hx1 : (World.alloc _ (.cells #[.int .i64 P, .int .i64 R, .int .i64 0, .slice Fs 0 fs] 28)).cell? ⟨g10, 1, none⟩ = some _ := (blk_cell (blk_alloc HST.out.blk (.cells #[.int .i64 P, .int .i64 R, .int .i64 0, .slice Fs 0 fs] 28)) 1).trans rfl
    go_wp2_with fail
    refine (encN P R Fs fs HST.out HTr.out HSh.out).mono ?_
    rintro e w_11 ⟨v, rfl, hb⟩
    clear hx0 hx1
    clear hz0 hz1 hz2 hz3
    have HW_ := Aside0.mk (HW.out.trans (hb.mono HW.out.size))
    have BF_ := Aside0.mk (blk_below BF.out hb)
    have HSs_ := Aside0.mk (HSs.out.below hb)
    have HST_ := Aside0.mk (HST.out.below hb)
    clear HW BF HSs HST
    have HW := HW_
    have BF := BF_
    have HSs := HSs_
    have HST := HST_
    clear HW_ BF_ HSs_ HST_
    clear hb
    go_wp2_with ((with_reducible refine gate_dst (N := 96) rfl ?_); refine Aside0.out ?_)
    refine ⟨?_⟩
    have hx0 := HST.out.cell0
    have hx1 := HST.out.cell1
    have hy0 := HSs.out.cell0
    have hy1 := HSs.out.cell1
    go_wp2_with fail
    refine (meetN HST.out HSs.out HSmT.out HSms.out HTb.out).mono ?_
    rintro e w_12 ⟨Am, mm, cm, Bm, nm, dm, rfl, hb⟩
    clear hx0 hx1 hy0 hy1
    have HW_ := Aside0.mk (HW.out.trans (hb.mono HW.out.size))
    have BF_ := Aside0.mk (blk_below BF.out hb)
    have HSs_ := Aside0.mk (HSs.out.below hb)
    have HST_ := Aside0.mk (HST.out.below hb)
    clear HW BF HSs HST
    have HW := HW_
    have BF := BF_
    have HSs := HSs_
    have HST := HST_
    clear HW_ BF_ HSs_ HST_
    clear hb
    go_wp2_with (first | ((with_reducible refine gate_dst (N := 16) rfl ?_); refine box_event ?hg (N := 16) ?hd (cs := #[.slice none 0 0, .slice none 0 0]) (t := 31) ?hr ?_; (case hd => rfl); (case hg => rfl); (case hr => first | (go_simp; done) | (go_simp; rfl)); intro g16 hg w_13 hbox hb; have HG := Aside0.mk hg; have HBx := Aside0.mk hb; have BKx := Aside0.mk hbox; have hz0 : w_13.cell? ⟨g16, 0, none⟩ = some (.slice none 0 0) := (blk_cell BKx.out 0).trans rfl; have hz1 : w_13.cell? ⟨g16, 1, none⟩ = some (.slice none 0 0) := (blk_cell BKx.out 1).trans rfl; have hf0 := blk_frozen BKx.out 0; have hf1 := blk_frozen BKx.out 1; clear hg hbox hb) | ((with_reducible refine gate_dst (N := 101) rfl ?_); refine Aside0.out ?_))
    clear hz0 hz1 hf0 hf1
    have hb : Below w_12.heap.size w_12 ((w_13.setCell ⟨g16, 0, none⟩ (.slice Am mm cm)).setCell ⟨g16, 1, none⟩ (.slice Bm nm dm)) := below_set (below_set HBx.out (Nat.le_of_eq HG.out.symm)) (Nat.le_of_eq HG.out.symm)
    obtain ⟨w_14, hw⟩ : ∃ w, w = ((w_13.setCell ⟨g16, 0, none⟩ (.slice Am mm cm)).setCell ⟨g16, 1, none⟩ (.slice Bm nm dm)) := ⟨_, rfl⟩
    rw [← hw] at hb ⊢
    clear hw
    have HW_ := Aside0.mk (HW.out.trans (hb.mono HW.out.size))
    have BF_ := Aside0.mk (blk_below BF.out hb)
    have HSs_ := Aside0.mk (HSs.out.below hb)
    have HST_ := Aside0.mk (HST.out.below hb)
    clear HW BF HSs HST
    have HW := HW_
    have BF := BF_
    have HSs := HSs_
    have HST := HST_
    clear HW_ BF_ HSs_ HST_
    clear hb HG HBx BKx
    refine ⟨?_⟩
    have hx0 := HST.out.cell0
    have hx1 := HST.out.cell1
    go_wp2_with fail
    refine (aboveN HST.out HST.out HSmT.out HSmT.out HTa.out).mono ?_
    rintro e w_15 ⟨rfl, hb⟩
    clear hx0 hx1
    have HW_ := Aside0.mk (HW.out.trans (hb.mono HW.out.size))
    have BF_ := Aside0.mk (blk_below BF.out hb)
    have HSs_ := Aside0.mk (HSs.out.below hb)
    have HST_ := Aside0.mk (HST.out.below hb)
    clear HW BF HSs HST
    have HW := HW_
    have BF := BF_
    have HSs := HSs_
    have HST := HST_
    clear HW_ BF_ HSs_ HST_
    clear hb
    have hz0 : _ = some (Value.int .i64 P) := (blk_cell BF.out 0).trans rfl
    have hz1 : _ = some (Value.int .i64 R) := (blk_cell BF.out 1).trans rfl
    have hz2 : _ = some (Value.int .i64 0) := (blk_cell BF.out 2).trans rfl
    have hz3 : _ = some (Value.slice Fs 0 fs) := (blk_cell BF.out 3).trans rfl
    have hx0 := HST.out.cell0
    have hx1 := HST.out.cell1
    go_wp2_with fail
    refine (checkN P R 0 Fs 0 fs HST.out HTr.out HSh.out).mono ?_
    rintro e w_16 ⟨rfl, hb⟩
    clear hx0 hx1
    clear hz0 hz1 hz2 hz3
    clear HST
    have HW_ := Aside0.mk (HW.out.trans (hb.mono HW.out.size))
    have BF_ := Aside0.mk (blk_below BF.out hb)
    have HSs_ := Aside0.mk (HSs.out.below hb)
    clear HW BF HSs
    have HW := HW_
    have BF := BF_
    have HSs := HSs_
    clear HW_ BF_ HSs_
    clear hb
    go_wp2_with ((with_reducible refine gate_dst (N := 131) rfl ?_); refine Aside0.out ?_)
    clear HTr HTb HTa HTs HTn HSmT
    have HS0 := Aside0.mk HSs.out
    have HF0 := Aside0.mk BF.out
    have HW0 := Aside0.mk HW.out.size
    have HZ := Aside0.mk (Below.refl w_16.heap.size w_16)
    refine ⟨?_⟩
    have hx0 := HSs.out.cell0
    have hx1 := HSs.out.cell1
    go_wp2_with fail
    refine (copyC HSs.out HRs.out HSh.out).mono ?_
    rintro e w_17 ⟨Au, cu, Bu, du, rfl, hr0, hr1, hb⟩
    clear hx0 hx1
    have HW_ := Aside0.mk (HW.out.trans (hb.mono HW.out.size))
    have BF_ := Aside0.mk (blk_below BF.out hb)
    have HSs_ := Aside0.mk (HSs.out.below hb)
    have HZ_ := Aside0.mk (HZ.out.trans (hb.mono HZ.out.size))
    clear HW BF HSs HZ
    have HW := HW_
    have BF := BF_
    have HSs := HSs_
    have HZ := HZ_
    clear HW_ BF_ HSs_ HZ_
    clear hb
    have HGz := Aside0.mk HZ.out.size
    have HRx := Aside0.mk hr0
    have HRy := Aside0.mk hr1
    clear hr0 hr1
    go_wp2_with (first | ((with_reducible refine gate_dst (N := 19) rfl ?_); refine box_event ?hg (N := 19) ?hd (cs := #[.slice none 0 0, .slice none 0 0]) (t := 31) ?hr ?_; (case hd => rfl); (case hg => rfl); (case hr => first | (go_simp; done) | (go_simp; rfl)); intro g19 hg w_18 hbox hb; have HG := Aside0.mk hg; have HBx := Aside0.mk hb; have BKx := Aside0.mk hbox; have hz0 : w_18.cell? ⟨g19, 0, none⟩ = some (.slice none 0 0) := (blk_cell BKx.out 0).trans rfl; have hz1 : w_18.cell? ⟨g19, 1, none⟩ = some (.slice none 0 0) := (blk_cell BKx.out 1).trans rfl; have hf0 := blk_frozen BKx.out 0; have hf1 := blk_frozen BKx.out 1; clear hg hbox hb))
    clear hz0 hz1 hf0 hf1
    have BKu : Aside0 (((w_18.setCell ⟨g19, 0, none⟩ (.slice Au s.f0.length cu)).setCell ⟨g19, 1, none⟩ (.slice Bu s.f1.length du)).heap[g19]? = some (.cells #[.slice Au s.f0.length cu, .slice Bu s.f1.length du] 31 (0, 0))) := ⟨(blk_set (blk_set BKx.out 0 _) 1 _).trans rfl⟩
    have hb : Below w_17.heap.size w_17 ((w_18.setCell ⟨g19, 0, none⟩ (.slice Au s.f0.length cu)).setCell ⟨g19, 1, none⟩ (.slice Bu s.f1.length du)) := below_set (below_set HBx.out (Nat.le_of_eq HG.out.symm)) (Nat.le_of_eq HG.out.symm)
    obtain ⟨w_19, hw⟩ : ∃ w, w = ((w_18.setCell ⟨g19, 0, none⟩ (.slice Au s.f0.length cu)).setCell ⟨g19, 1, none⟩ (.slice Bu s.f1.length du)) := ⟨_, rfl⟩
    rw [← hw] at BKu hb ⊢
    clear hw
    have HW_ := Aside0.mk (HW.out.trans (hb.mono HW.out.size))
    have BF_ := Aside0.mk (blk_below BF.out hb)
    have HSs_ := Aside0.mk (HSs.out.below hb)
    have HZ_ := Aside0.mk (HZ.out.trans (hb.mono HZ.out.size))
    clear HW BF HSs HZ
    have HW := HW_
    have BF := BF_
    have HSs := HSs_
    have HZ := HZ_
    clear HW_ BF_ HSs_ HZ_
    have HXu := Aside0.mk (Kd.R_below HRx.out hb)
    have HYu := Aside0.mk (Kd.S_below HRy.out hb)
    clear hb HRx HRy HBx BKx
    clear HG
    obtain ⟨gU, inn, f2, eU, hRW⟩ := rows_of_S HYu.out (by have := HI.out; omega)
    subst eU
    have HRU := Aside0.mk (hRW.below (below_drew (Below.refl w_19.heap.size w_19)))
    clear hRW
    have HXu_ := Aside0.mk (Kd.R_drew (Kd.R_tight rfl HXu.out))
    clear HXu
    have HXu := HXu_
    clear HXu_
    obtain ⟨x, hx⟩ : ∃ x, s.f1[i]? = some x := ⟨s.f1[i]'HI.out.2, List.getElem?_eq_getElem HI.out.2⟩
    have HX := Aside0.mk hx
    clear hx
    obtain ⟨vi, hvi, hRi⟩ := HRU.out.rows i x HX.out
    obtain ⟨Ai, ci, rfl⟩ := Kd.R_slice hRi
    have HV := Aside0.mk hvi
    have HRi := Aside0.mk hRi
    clear hvi hRi
    have HLx : Aside0 (x.length ≤ 4) := ⟨by have h4 := (right_lens HRs.out HSh.out).2.2.2 i HI.out.2; have h5 := HX.out; rw [List.getElem?_eq_getElem HI.out.2] at h5; injection h5 with h5; rw [← h5]; exact h4⟩
    have hgUb := own_base HRU.out.own gU rfl
    have hgUl := own_lt HRU.out.own gU rfl
    have HGU := Aside0.mk hgUb
    have HGL := Aside0.mk hgUl
    clear hgUb hgUl
    have HOi : Aside0 (kI.R 3 w_19.drew w_16.heap.size (fun k => k ≠ gU) (.slice Ai x.length ci) x) := ⟨Kd.R_mono HRi.out (fun k hk => hk.1.1)⟩
    have HBz : Aside0 (w_16.heap.size ≤ w_19.drew.heap.size) := ⟨HZ.out.size⟩
    have hs0 : w_19.cell? ⟨g19, 1, none⟩ = some (.slice (some ⟨gU, 0, none⟩) s.f1.length du) := (blk_cell BKu.out 1).trans rfl
    have hs1 : w_19.drew.cell? ⟨gU, i, none⟩ = some (.slice Ai x.length ci) := (own_cell22 HRU.out.own HV.out).1
    have BKud : Aside0 (w_19.drew.heap[g19]? = some (.cells #[.slice Au s.f0.length cu, .slice (some ⟨gU, 0, none⟩) s.f1.length du] 31 (0, 0))) := ⟨BKu.out⟩
    try simp only [hq2]
    refine start_ (n := 12) (S := fun w' => w'.cell? ⟨g19, 1, none⟩ = some (.slice (some ⟨gU, 0, none⟩) s.f1.length du) ∧ w'.cell? ⟨gU, i, none⟩ = some (.slice Ai x.length ci)) (ds := [11]) #[false, false, false, false, false, false, false, false, false, false, false, false] (by kernel_rfl) rfl rfl ⟨hs0, hs1⟩ (fun hHeld => ?_)
    refine with_tabW TAB_4.tab18 TAB_4.bits18 (fun HT_ HW_ => ?_)
    refine pure_ (i := 0) (N := some 133) (v := ?_) (a' := ?_) #[true, false, false, false, false, false, false, false, false, false, false, false] rfl rfl (any_of HT_.out (by kernel_rfl)) (fun _ _ _ h => h) (Or.inl ⟨by rfl, ?_⟩) ?_ ?_
    rotate_left
    · intro w'
      go_simp
      with_reducible rfl
    rotate_left
    · simp only [Act.put, List.setIfInBounds_toArray, List.set_cons_zero, List.set_cons_succ, i64_w, i32_w]
      rfl
    refine pure_ (i := 2) (N := some 135) (v := ?_) (a' := ?_) #[true, false, true, false, false, false, false, false, false, false, false, false] rfl rfl (any_of HT_.out (by kernel_rfl)) (fun _ _ _ h => h) (Or.inl ⟨by rfl, ?_⟩) ?_ ?_
    rotate_left
    · intro w'
      go_simp
      with_reducible rfl
    rotate_left
    · simp only [Act.put, List.setIfInBounds_toArray, List.set_cons_zero, List.set_cons_succ, i64_w, i32_w]
      rfl
    refine pure_ (i := 3) (N := some 136) (v := ?_) (a' := ?_) #[true, false, true, true, false, false, false, false, false, false, false, false] rfl rfl (any_of HT_.out (by kernel_rfl)) (fun _ _ _ h => h) (Or.inl ⟨by rfl, ?_⟩) ?_ ?_
    rotate_left
    · intro w'
      go_simp
      with_reducible rfl
    rotate_left
    · simp only [Act.put, List.setIfInBounds_toArray, List.set_cons_zero, List.set_cons_succ, i64_w, i32_w]
      rfl
    refine pure_ (i := 5) (N := some 138) (v := ?_) (a' := ?_) #[true, false, true, true, false, true, false, false, false, false, false, false] rfl rfl (any_of HT_.out (by kernel_rfl)) (fun _ _ _ h => h) (Or.inl ⟨by rfl, ?_⟩) ?_ ?_
    rotate_left
    · intro w'
      go_simp
      with_reducible rfl
    rotate_left
    · simp only [Act.put, List.setIfInBounds_toArray, List.set_cons_zero, List.set_cons_succ, i64_w, i32_w]
      rfl
    refine take_ (i := 1) (N := some 134) (v := ?_) (a' := ?_) #[true, true, true, true, false, true, false, false, false, false, false, false] rfl rfl (take_ofW HT_.out HW_.out (by kernel_rfl)) (fun _ _ _ h => h) (Or.inl ⟨by rfl, ?_⟩) hHeld ?_ ?_
    rotate_left
    · rintro w' ⟨s0, s1⟩
      go_simp
      with_reducible rfl
    rotate_left
    · simp only [Act.put, List.setIfInBounds_toArray, List.set_cons_zero, List.set_cons_succ, i64_w, i32_w]
      rfl
    refine take_ (i := 4) (N := some 137) (v := ?_) (a' := ?_) #[true, true, true, true, true, true, false, false, false, false, false, false] rfl rfl (take_ofW HT_.out HW_.out (by kernel_rfl)) (fun _ _ _ h => h) (Or.inl ⟨by rfl, ?_⟩) hHeld ?_ ?_
    rotate_left
    · rintro w' ⟨s0, s1⟩
      go_simp
      with_reducible rfl
    rotate_left
    · simp only [Act.put, List.setIfInBounds_toArray, List.set_cons_zero, List.set_cons_succ, i64_w, i32_w]
      rfl
    refine pure_ (i := 6) (N := some 139) (v := ?_) (a' := ?_) #[true, true, true, true, true, true, true, false, false, false, false, false] rfl rfl (any_of HT_.out (by kernel_rfl)) (fun _ _ _ h => h) (Or.inl ⟨by rfl, ?_⟩) ?_ ?_
    rotate_left
    · intro w'
      go_simp
      with_reducible rfl
    rotate_left
    · simp only [Act.put, List.setIfInBounds_toArray, List.set_cons_zero, List.set_cons_succ, i64_w, i32_w]
      rfl
    refine take_ (i := 7) (N := some 140) (v := ?_) (a' := ?_) #[true, true, true, true, true, true, true, true, false, false, false, false] rfl rfl (take_ofW HT_.out HW_.out (by kernel_rfl)) (fun _ _ _ h => h) (Or.inl ⟨by rfl, ?_⟩) hHeld ?_ ?_
    rotate_left
    · rintro w' ⟨s0, s1⟩
      go_simp
      with_reducible rfl
    rotate_left
    · simp only [Act.put, List.setIfInBounds_toArray, List.set_cons_zero, List.set_cons_succ, i64_w, i32_w]
      rfl
    refine one_ (i := 8) (N := some 141) #[true, true, true, true, true, true, true, true, true, false, false, false] rfl rfl (one_of HT_.out (by kernel_rfl)) (by decide) (fun K hK => ?_)
    refine value_ (w1 := ?_) (v := ?_) (by rfl) rfl ?_ ?_
    rotate_left 2
    · go_simp
      constructor
      · rfl
      · rfl
    show K _ (World.alloc w_19.drew (Obj.cells #[Value.int IntKind.i64 0] 3))
    refine hK.out _ _ ⟨pw_cell_below (below_alloc (Below.refl _ _) _) hs0, pw_cell_below (below_alloc (Below.refl _ _) _) hs1⟩ (fun hHeld => ?_)
    clear hK K
    refine norm_ (a' := ?_) ?_ ?_
    rotate_left
    · show Act.put _ (some 141) _ = _
      simp only [Act.put, List.setIfInBounds_toArray, List.set_cons_zero, List.set_cons_succ, i64_w, i32_w]
      rfl
    refine one_ (i := 9) (N := some 142) #[true, true, true, true, true, true, true, true, true, true, false, false] rfl rfl (one_of HT_.out (by kernel_rfl)) (by decide) (fun K hK => ?_)
    refine Kd.R_append_step (Kd.int .i64) (w0 := w_19.drew) w_16.heap.size (by rfl) (.tmp 140) (.tmp 141) 22 3 (.int .i64 0) 8 (by rfl) Try.underlying22 info3 (by rfl) (by decide) (by omega) (.slice Ai x.length ci) x 0 [.int .i64 0] (fun k => k ≠ gU) (fun _ => False) (by rfl) (by rfl) ?aP (fun _ hk => hk.elim) ?aF ?aO ?aB ?aS ?aL ?_
    case aP => exact rfl
    case aF => exact fun k hk e => by have h1 := HGL.out; omega
    case aO => exact HOi.out
    case aB => exact Below.refl _ _
    case aS => exact HBz.out
    case aL => have := HLx.out; omega
    intro v1 w11 ho hb hg hat
    obtain ⟨y, hy⟩ : ∃ y, y = x ++ [0] := ⟨_, rfl⟩
    rw [← hy] at ho
    have HY := Aside0.mk hy
    clear hy
    obtain ⟨A1_, c1_, rfl⟩ := Kd.R_slice ho
    have E19 := Aside0.mk (blk_grown BKud.out hg (Kd.R_ne HOi.out BKud.out (by decide)))
    have Eo := Aside0.mk (own_other HRU.out.own hg (.inr (fun e => (HRi.out.1 gU e.symm).1.1 rfl)))
    have EX := Aside0.mk (Kd.R_grown HXu.out hg (fun k hk e => (HRi.out.1 k e.symm).1.2 hk))
    have EG := Aside0.mk (HRU.out.grow HX.out HV.out hg ho)
    have EB := Aside0.mk hb
    clear ho hb hg hat
    refine hK.out _ _ ⟨(blk_cell E19.out 1).trans rfl, (own_cell22 Eo.out HV.out).1⟩ (fun hHeld => ?_)
    clear hK K
    refine norm_ (a' := ?_) ?_ ?_
    rotate_left
    · show Act.put _ (some 142) _ = _
      simp only [Act.put, List.setIfInBounds_toArray, List.set_cons_zero, List.set_cons_succ, i64_w, i32_w]
      rfl
    refine pure_ (i := 10) (N := some 143) (v := ?_) (a' := ?_) #[true, true, true, true, true, true, true, true, true, true, true, false] rfl rfl (any_of HT_.out (by kernel_rfl)) (fun _ _ _ h => h) (Or.inl ⟨by rfl, ?_⟩) ?_ ?_
    rotate_left
    · intro w'
      go_simp
      with_reducible rfl
    rotate_left
    · simp only [Act.put, List.setIfInBounds_toArray, List.set_cons_zero, List.set_cons_succ, i64_w, i32_w]
      rfl
    refine last_ (i := 11) (N := none) #[true, true, true, true, true, true, true, true, true, true, true, true] rfl rfl (one_of HT_.out (by kernel_rfl)) (by decide) (fun K hK => ?_)
    have hcz := (own_cell22 Eo.out HV.out).1
    have hfz := (own_cell22 Eo.out HV.out).2
    refine skip_ (w1 := ?_) (by rfl) rfl ?_ ?_
    rotate_left
    · go_simp
      rfl
    clear hcz hfz
    refine hK.out _ _ ?_
    clear hK K
    refine done_ (done_of HT_.out (by kernel_rfl)) ?_

    clear HT_ HW_
    obtain ⟨cU, hcU⟩ := own_typed Eo.out gU rfl
    obtain ⟨U, hUe⟩ : ∃ U, U = (⟨s.f0, s.f1.set i y⟩ : S31) := ⟨_, rfl⟩
    have NU : g19 ≠ gU := fun e => own_ne Eo.out E19.out (by decide) (by rw [e]; rfl)
    have HSU : Aside0 (SumC (w11.setCell ⟨gU, i, none⟩ (.slice A1_ y.length c1_)) g19 Au cu (some ⟨gU, 0, none⟩) du U) := ⟨by
      rw [hUe]
      have r0 := Kd.R_reads' (Kd.R_set EX.out hcU (by decide) i (.slice A1_ y.length c1_))
      exact ⟨by show _ = some (Obj.cells #[_, Value.slice _ (s.f1.set i y).length _] 31 (0, 0)); rw [List.length_set]; exact blk_far E19.out NU _, r0.2.1, r0.2.2, by show (s.f1.set i y).length ≤ _; rw [List.length_set]; exact EG.out.1, by show kL.C _ _ (s.f1.set i y).length (s.f1.set i y); rw [List.length_set]; exact EG.out.2⟩⟩
    have HB11 : Below w_16.heap.size w_16 w11 := HZ.out.trans ((below_drew (Below.refl w_19.heap.size w_19)).mono HZ.out.size |>.trans EB.out)
    have HZ_ : Aside0 (Below w_16.heap.size w_16 (w11.setCell ⟨gU, i, none⟩ (.slice A1_ y.length c1_))) := ⟨below_set HB11 HGU.out⟩
    have HW_ : Aside0 (Below W.heap.size W (w11.setCell ⟨gU, i, none⟩ (.slice A1_ y.length c1_))) := ⟨below_set (HW.out.trans (((below_drew (Below.refl w_19.heap.size w_19)).mono HW.out.size).trans (EB.out.mono HW0.out))) (Nat.le_trans HW0.out HGU.out)⟩
    have hU := more_facts HRs.out HSh.out i HI.out.2
    have hUy : (⟨s.f0, s.f1.set i (s.f1[i]'HI.out.2 ++ [0])⟩ : S31) = U := by rw [hUe, HY.out]; have h5 := HX.out; rw [List.getElem?_eq_getElem HI.out.2] at h5; injection h5 with h5; rw [h5]
    rw [hUy] at hU
    have HUr := Aside0.mk hU.1
    have HUb := Aside0.mk hU.2.1
    have HSmU := Aside0.mk hU.2.2
    obtain ⟨w_20, hw⟩ : ∃ w, w = (w11.setCell ⟨gU, i, none⟩ (.slice A1_ y.length c1_)) := ⟨_, rfl⟩
    rw [← hw] at HSU HZ_ HW_ ⊢
    clear hw hcU hUe NU HB11 hU hUy HZ HW HSs BF HRU HXu HX HV HRi HLx HOi HBz hs0 hs1 BKud E19 Eo EX EG EB HY HYu BKu HGL
    have HZ := HZ_
    have HW := HW_
    clear HZ_ HW_
    have HSs := Aside0.mk (HS0.out.below HZ.out)
    have BF := Aside0.mk (blk_below HF0.out HZ.out)
    clear HZ HS0 HF0 HGU HW0
    go_wp2_with ((with_reducible refine gate_dst (N := 144) rfl ?_); refine Aside0.out ?_)
    have HS0 := Aside0.mk HSs.out
    have HU0 := Aside0.mk HSU.out
    have HF0 := Aside0.mk BF.out
    have HW0 := Aside0.mk HW.out.size
    have HZ := Aside0.mk (Below.refl w_20.heap.size w_20)
    refine ⟨?_⟩
    have hx0 := HSs.out.cell0
    have hx1 := HSs.out.cell1
    go_wp2_with fail
    refine (copyC HSs.out HRs.out HSh.out).mono ?_
    rintro e w_21 ⟨Av, cv, Bv, dv, rfl, hr0, hr1, hb⟩
    clear hx0 hx1
    have HW_ := Aside0.mk (HW.out.trans (hb.mono HW.out.size))
    have BF_ := Aside0.mk (blk_below BF.out hb)
    have HSs_ := Aside0.mk (HSs.out.below hb)
    have HSU_ := Aside0.mk (HSU.out.below hb)
    have HZ_ := Aside0.mk (HZ.out.trans (hb.mono HZ.out.size))
    clear HW BF HSs HSU HZ
    have HW := HW_
    have BF := BF_
    have HSs := HSs_
    have HSU := HSU_
    have HZ := HZ_
    clear HW_ BF_ HSs_ HSU_ HZ_
    clear hb
    have HGz := Aside0.mk HZ.out.size
    have HRx := Aside0.mk hr0
    have HRy := Aside0.mk hr1
    clear hr0 hr1
    go_wp2_with (first | ((with_reducible refine gate_dst (N := 20) rfl ?_); refine box_event ?hg (N := 20) ?hd (cs := #[.slice none 0 0, .slice none 0 0]) (t := 31) ?hr ?_; (case hd => rfl); (case hg => rfl); (case hr => first | (go_simp; done) | (go_simp; rfl)); intro g20 hg w_22 hbox hb; have HG := Aside0.mk hg; have HBx := Aside0.mk hb; have BKx := Aside0.mk hbox; have hz0 : w_22.cell? ⟨g20, 0, none⟩ = some (.slice none 0 0) := (blk_cell BKx.out 0).trans rfl; have hz1 : w_22.cell? ⟨g20, 1, none⟩ = some (.slice none 0 0) := (blk_cell BKx.out 1).trans rfl; have hf0 := blk_frozen BKx.out 0; have hf1 := blk_frozen BKx.out 1; clear hg hbox hb) | ((with_reducible refine gate_dst (N := 146) rfl ?_); refine Aside0.out ?_))
    clear hz0 hz1 hf0 hf1
    have BKv : Aside0 (((w_22.setCell ⟨g20, 0, none⟩ (.slice Av s.f0.length cv)).setCell ⟨g20, 1, none⟩ (.slice Bv s.f1.length dv)).heap[g20]? = some (.cells #[.slice Av s.f0.length cv, .slice Bv s.f1.length dv] 31 (0, 0))) := ⟨(blk_set (blk_set BKx.out 0 _) 1 _).trans rfl⟩
    have hb : Below w_21.heap.size w_21 ((w_22.setCell ⟨g20, 0, none⟩ (.slice Av s.f0.length cv)).setCell ⟨g20, 1, none⟩ (.slice Bv s.f1.length dv)) := below_set (below_set HBx.out (Nat.le_of_eq HG.out.symm)) (Nat.le_of_eq HG.out.symm)
    obtain ⟨w_23, hw⟩ : ∃ w, w = ((w_22.setCell ⟨g20, 0, none⟩ (.slice Av s.f0.length cv)).setCell ⟨g20, 1, none⟩ (.slice Bv s.f1.length dv)) := ⟨_, rfl⟩
    rw [← hw] at BKv hb ⊢
    clear hw
    have HW_ := Aside0.mk (HW.out.trans (hb.mono HW.out.size))
    have BF_ := Aside0.mk (blk_below BF.out hb)
    have HSs_ := Aside0.mk (HSs.out.below hb)
    have HSU_ := Aside0.mk (HSU.out.below hb)
    have HZ_ := Aside0.mk (HZ.out.trans (hb.mono HZ.out.size))
    clear HW BF HSs HSU HZ
    have HW := HW_
    have BF := BF_
    have HSs := HSs_
    have HSU := HSU_
    have HZ := HZ_
    clear HW_ BF_ HSs_ HSU_ HZ_
    have HXv := Aside0.mk (Kd.R_below HRx.out hb)
    have HYv := Aside0.mk (Kd.S_below HRy.out hb)
    clear hb HRx HRy HBx BKx
    have HG20 := Aside0.mk (Nat.le_trans HGz.out (Nat.le_of_eq HG.out.symm))
    clear HG HGz
    obtain ⟨m, hm⟩ : ∃ m, m = s.f1.length - 1 := ⟨_, rfl⟩
    have hmn : m ≤ s.f1.length := by omega
    have hw3 : wrap64 (P - 1) = (m : Int) := (wrap_in (x := P - 1) (by have := HPn.out; have := HI.out.2; omega) (by have := HPn.out; have := HP8.out; omega)).trans (by have h1 := HPn.out; have h2 := HL.out; have h3 := HL1.out; have h4 := HI.out.2; omega)
    have HMM := Aside0.mk hm
    clear hm
    obtain ⟨i22, hi22, _⟩ := info_parts info22
    have hs151 : ∀ W : World, (Instr.slice 29 (.slice Bv s.f1.length dv) none (some (.int .i64 (m : Int))) none).run Try.prog W = .ok (.slice Bv m dv) W := by
      have h := cut_to (P := Try.prog) 29 22 .i64 Try.underlying29 hi22 Bv s.f1.length dv (m : Int) (by omega) (by omega) (Kd.S_reads' HYv.out).2.1
      simpa only [Int.toNat_natCast] using h
    refine ⟨?_⟩
    have hz0 : _ = some (Value.int .i64 P) := (blk_cell BF.out 0).trans rfl
    have hz1 : _ = some (Value.int .i64 R) := (blk_cell BF.out 1).trans rfl
    have hz2 : _ = some (Value.int .i64 0) := (blk_cell BF.out 2).trans rfl
    have hz3 : _ = some (Value.slice Fs 0 fs) := (blk_cell BF.out 3).trans rfl
    have hx1 : _ = some (Value.slice Bv s.f1.length dv) := (blk_cell BKv.out 1).trans rfl
    have hf1 := blk_frozen BKv.out 1
    go_wp2_with ((with_reducible refine gate_dst (N := 154) rfl ?_); refine Aside0.out ?_)
    clear hz0 hz1 hz2 hz3
    clear hx1 hf1
    obtain ⟨V, hVe⟩ : ∃ V, V = (⟨s.f0, s.f1.take (s.f1.length - 1)⟩ : S31) := ⟨_, rfl⟩
    have HSV : Aside0 (SumC (w_23.setCell ⟨g20, 1, none⟩ (.slice Bv m dv)) g20 Av cv Bv dv V) := ⟨by
      rw [hVe, ← HMM.out]
      have r0 := Kd.R_reads' (Kd.R_set HXv.out BKv.out (by decide) 1 (.slice Bv m dv))
      have r1 := Kd.R_reads' (Kd.R_set (Kd.R_take (Kd.S_R HYv.out) hmn) BKv.out (by decide) 1 (.slice Bv m dv))
      have hl : (s.f1.take m).length = m := by rw [List.length_take]; omega
      exact ⟨by show _ = some (Obj.cells #[_, Value.slice _ (s.f1.take m).length _] 31 (0, 0)); rw [hl]; exact (blk_set BKv.out 1 _).trans rfl, r0.2.1, r0.2.2, by show (s.f1.take m).length ≤ _; rw [hl]; exact r1.2.1, r1.2.2⟩⟩
    have HZ_ : Aside0 (Below w_20.heap.size w_20 (w_23.setCell ⟨g20, 1, none⟩ (.slice Bv m dv))) := ⟨below_set HZ.out HG20.out⟩
    have HW_ : Aside0 (Below W.heap.size W (w_23.setCell ⟨g20, 1, none⟩ (.slice Bv m dv))) := ⟨below_set HW.out (Nat.le_trans HW0.out HG20.out)⟩
    have hV := less_facts HRs.out HSh.out (by have := HI.out.2; omega)
    rw [← hVe] at hV
    have HVr := Aside0.mk hV.1
    have HVb := Aside0.mk hV.2.1
    have HSmV := Aside0.mk hV.2.2
    obtain ⟨w_24, hw⟩ : ∃ w, w = (w_23.setCell ⟨g20, 1, none⟩ (.slice Bv m dv)) := ⟨_, rfl⟩
    rw [← hw] at HSV HZ_ HW_ ⊢
    clear hw hVe hV HMM hmn hw3 hs151 hi22 HZ HW HSs HSU BF HXv HYv BKv HG20
    have HZ := HZ_
    have HW := HW_
    clear HZ_ HW_
    have HSs := Aside0.mk (HS0.out.below HZ.out)
    have HSU := Aside0.mk (HU0.out.below HZ.out)
    have BF := Aside0.mk (blk_below HF0.out HZ.out)
    clear HZ HS0 HU0 HF0 HW0
    refine ⟨?_⟩
    have hx0 := HSs.out.cell0
    have hx1 := HSs.out.cell1
    have hy0 := HSU.out.cell0
    have hy1 := HSU.out.cell1
    go_wp2_with fail
    refine (meetN HSs.out HSU.out HSms.out HSmU.out HUb.out).mono ?_
    rintro e w_25 ⟨Am, mm, cm, Bm, nm, dm, rfl, hb⟩
    clear hx0 hx1 hy0 hy1
    have HW_ := Aside0.mk (HW.out.trans (hb.mono HW.out.size))
    have BF_ := Aside0.mk (blk_below BF.out hb)
    have HSs_ := Aside0.mk (HSs.out.below hb)
    have HSU_ := Aside0.mk (HSU.out.below hb)
    have HSV_ := Aside0.mk (HSV.out.below hb)
    clear HW BF HSs HSU HSV
    have HW := HW_
    have BF := BF_
    have HSs := HSs_
    have HSU := HSU_
    have HSV := HSV_
    clear HW_ BF_ HSs_ HSU_ HSV_
    clear hb
    go_wp2_with ((with_reducible refine gate_dst (N := 160) rfl ?_); refine Aside0.out ?_)
    refine ⟨?_⟩
    have hx0 := HSV.out.cell0
    have hx1 := HSV.out.cell1
    have hy0 := HSs.out.cell0
    have hy1 := HSs.out.cell1
    go_wp2_with fail
    refine (meetN HSV.out HSs.out HSmV.out HSms.out HVb.out).mono ?_
    rintro e w_26 ⟨Am, mm, cm, Bm, nm, dm, rfl, hb⟩
    clear hx0 hx1 hy0 hy1
    have HW_ := Aside0.mk (HW.out.trans (hb.mono HW.out.size))
    have BF_ := Aside0.mk (blk_below BF.out hb)
    have HSs_ := Aside0.mk (HSs.out.below hb)
    have HSU_ := Aside0.mk (HSU.out.below hb)
    have HSV_ := Aside0.mk (HSV.out.below hb)
    clear HW BF HSs HSU HSV
    have HW := HW_
    have BF := BF_
    have HSs := HSs_
    have HSU := HSU_
    have HSV := HSV_
    clear HW_ BF_ HSs_ HSU_ HSV_
    clear hb
    go_wp2_with ((with_reducible refine gate_dst (N := 165) rfl ?_); refine Aside0.out ?_)
    refine ⟨?_⟩
    have hx0 := HSs.out.cell0
    have hx1 := HSs.out.cell1
    have hy0 := HSU.out.cell0
    have hy1 := HSU.out.cell1
    go_wp2_with fail
    refine (aboveN HSs.out HSU.out HSms.out HSmU.out (above_not HUb.out)).mono ?_
    rintro e w_27 ⟨rfl, hb⟩
    clear hx0 hx1 hy0 hy1
    have HW_ := Aside0.mk (HW.out.trans (hb.mono HW.out.size))
    have BF_ := Aside0.mk (blk_below BF.out hb)
    have HSs_ := Aside0.mk (HSs.out.below hb)
    have HSU_ := Aside0.mk (HSU.out.below hb)
    have HSV_ := Aside0.mk (HSV.out.below hb)
    clear HW BF HSs HSU HSV
    have HW := HW_
    have BF := BF_
    have HSs := HSs_
    have HSU := HSU_
    have HSV := HSV_
    clear HW_ BF_ HSs_ HSU_ HSV_
    clear hb
    go_wp2_with ((with_reducible refine gate_dst (N := 168) rfl ?_); refine Aside0.out ?_)
    refine ⟨?_⟩
    have hx0 := HSV.out.cell0
    have hx1 := HSV.out.cell1
    have hy0 := HSs.out.cell0
    have hy1 := HSs.out.cell1
    go_wp2_with fail
    refine (aboveN HSV.out HSs.out HSmV.out HSms.out (above_not HVb.out)).mono ?_
    rintro e w_28 ⟨rfl, hb⟩
    clear hx0 hx1 hy0 hy1
    have HW_ := Aside0.mk (HW.out.trans (hb.mono HW.out.size))
    have BF_ := Aside0.mk (blk_below BF.out hb)
    have HSs_ := Aside0.mk (HSs.out.below hb)
    have HSU_ := Aside0.mk (HSU.out.below hb)
    have HSV_ := Aside0.mk (HSV.out.below hb)
    clear HW BF HSs HSU HSV
    have HW := HW_
    have BF := BF_
    have HSs := HSs_
    have HSU := HSU_
    have HSV := HSV_
    clear HW_ BF_ HSs_ HSU_ HSV_
    clear hb
    go_wp2_with ((with_reducible refine gate_dst (N := 171) rfl ?_); refine Aside0.out ?_)
    refine ⟨?_⟩
    have hz0 : _ = some (Value.int .i64 P) := (blk_cell BF.out 0).trans rfl
    have hz1 : _ = some (Value.int .i64 R) := (blk_cell BF.out 1).trans rfl
    have hz2 : _ = some (Value.int .i64 0) := (blk_cell BF.out 2).trans rfl
    have hz3 : _ = some (Value.slice Fs 0 fs) := (blk_cell BF.out 3).trans rfl
    have hx0 := HSU.out.cell0
    have hx1 := HSU.out.cell1
    go_wp2_with fail
    refine (checkN P R 0 Fs 0 fs HSU.out HUr.out HSh.out).mono ?_
    rintro e w_29 ⟨rfl, hb⟩
    clear hx0 hx1
    clear hz0 hz1 hz2 hz3
    have HW_ := Aside0.mk (HW.out.trans (hb.mono HW.out.size))
    have BF_ := Aside0.mk (blk_below BF.out hb)
    have HSs_ := Aside0.mk (HSs.out.below hb)
    have HSU_ := Aside0.mk (HSU.out.below hb)
    have HSV_ := Aside0.mk (HSV.out.below hb)
    clear HW BF HSs HSU HSV
    have HW := HW_
    have BF := BF_
    have HSs := HSs_
    have HSU := HSU_
    have HSV := HSV_
    clear HW_ BF_ HSs_ HSU_ HSV_
    clear hb
    have hz0 : _ = some (Value.int .i64 P) := (blk_cell BF.out 0).trans rfl
    have hz1 : _ = some (Value.int .i64 R) := (blk_cell BF.out 1).trans rfl
    have hz2 : _ = some (Value.int .i64 0) := (blk_cell BF.out 2).trans rfl
    have hz3 : _ = some (Value.slice Fs 0 fs) := (blk_cell BF.out 3).trans rfl
    have hx0 := HSV.out.cell0
    have hx1 := HSV.out.cell1
    go_wp2_with fail
    refine (checkN P R 0 Fs 0 fs HSV.out HVr.out HSh.out).mono ?_
    rintro e w_30 ⟨rfl, hb⟩
    clear hx0 hx1
    clear hz0 hz1 hz2 hz3
    have HW_ := Aside0.mk (HW.out.trans (hb.mono HW.out.size))
    have BF_ := Aside0.mk (blk_below BF.out hb)
    have HSs_ := Aside0.mk (HSs.out.below hb)
    have HSU_ := Aside0.mk (HSU.out.below hb)
    have HSV_ := Aside0.mk (HSV.out.below hb)
    clear HW BF HSs HSU HSV
    have HW := HW_
    have BF := BF_
    have HSs := HSs_
    have HSU := HSU_
    have HSV := HSV_
    clear HW_ BF_ HSs_ HSU_ HSV_
    clear hb
    go_simp
    repeat (first | go_skip | go_guarded | go_step | go_upon)
    go_ret
    exact ⟨rfl, HW.out⟩
end Go.Proofs.Ytgemcomcjojjbaa.PS
