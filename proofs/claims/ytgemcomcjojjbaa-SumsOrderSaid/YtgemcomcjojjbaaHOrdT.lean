/- The walk of the law on the order of summaries (printed by wip/sums/genso.py, case T). No conditions. -/
import Derived.Test.YtgemcomcjojjbaaHOrdC
namespace Go.Proofs.Ytgemcomcjojjbaa.PS
open Go.RowKit Go.Proofs.YtgemcomcjojjbaaW.PrintWords Go.Proofs.YtgemcomcjojjbaaW.PrintLast Go.Proofs.YtgemcomcjojjbaaW.PrintMore
set_option linter.unusedVariables false
set_option linter.unusedSimpArgs false

set_option maxHeartbeats 80000000 in
set_option maxRecDepth 100000 in
theorem order_walkT (p r : Int) (la lb lc : List Int) (A B C : Option Addr) (ca_ cb_ cc_ : Nat) (P R : Int) (a b c : S31) (k1 k2 k3 : Nat) (W : World) (hA : kI.C W A la.length la) (lA : la.length ≤ ca_) (hB : kI.C W B lb.length lb) (lB : lb.length ≤ cb_) (hC : kI.C W C lc.length lc) (lC : lc.length ≤ cc_)
    (e1 : fuguelaw09_shaped.f k1 p r la = some (P, R, 0, [], a.f0, a.f1)) (e2 : fuguelaw09_shaped.f k2 p r lb = some (P, R, 0, [], b.f0, b.f1)) (e3 : fuguelaw09_shaped.f k3 p r lc = some (P, R, 0, [], c.f0, c.f1)) (hs : shapeS P R = true) (ra : rightS P R a = true) (rb : rightS P R b = true) (rc : rightS P R c = true) (hab : aboveS a b = true) (hbc : aboveS b c = true) :
    Calls Try.prog 3 #[.agg #[.int .i64 p, .int .i64 r, .slice A la.length ca_, .slice B lb.length cb_, .slice C lc.length cc_]] W fun e w' => e = .returned (.bool true) ∧ Below W.heap.size W w' := by
  obtain ⟨Haa, Hanti, Htr, Hma, Hmb, Hcm⟩ := order_facts ra rb rc
  have HSh := Aside0.mk hs
  have HRa := Aside0.mk ra
  have HRb := Aside0.mk rb
  have HRc := Aside0.mk rc
  have HRm := Aside0.mk (meet_right ra rb)
  have HRn := Aside0.mk (meet_right rb ra)
  have HRo := Aside0.mk (meet_right rb rc)
  have HRq := Aside0.mk (meet_right (meet_right ra rb) rc)
  have HRk := Aside0.mk (meet_right ra (meet_right rb rc))
  have Vmn : Aside0 (eqS (meetS a b) (meetS b a) = true) := ⟨by rw [meet_comm b a]; exact eqS_self _⟩
  have Vqk : Aside0 (eqS (meetS (meetS a b) c) (meetS a (meetS b c)) = true) := ⟨by rw [meet_assoc]; exact eqS_self _⟩
  have Vaa := Aside0.mk Haa
  have Vma := Aside0.mk Hma
  have Vmb := Aside0.mk Hmb
  have Vcm := Aside0.mk Hcm
  have Vab := Aside0.mk hab
  have HFx := Aside0.mk fixed_any
  have HCa := Aside0.mk hA
  have HCb := Aside0.mk hB
  have HCc := Aside0.mk hC
  have HLa := Aside0.mk lA
  have HLb := Aside0.mk lB
  have HLc := Aside0.mk lC
  have He1 := Aside0.mk e1
  have He2 := Aside0.mk e2
  have He3 := Aside0.mk e3
  have HW := Aside0.mk (Below.refl W.heap.size W)
  obtain ⟨vba, hba⟩ : ∃ v, v = aboveS b a := ⟨_, rfl⟩
  have Vba := Aside0.mk hba.symm
  have Vsame : Aside0 (eqS a b = vba) := ⟨by rw [← Hanti, hab, hba, Bool.true_and]⟩
  have hnn : (vba != vba) = false := by simp
  have Vbc := Aside0.mk hbc
  have Vac := Aside0.mk (Htr hab hbc)
  clear hbc
  obtain ⟨vca, hca⟩ : ∃ v, v = aboveS c a := ⟨_, rfl⟩
  obtain ⟨vcb, hcb⟩ : ∃ v, v = aboveS c b := ⟨_, rfl⟩
  have Vca := Aside0.mk hca.symm
  have Vcb := Aside0.mk hcb.symm
  have Vcm' : Aside0 (aboveS c (meetS a b) = (vca && vcb)) := ⟨by rw [Vcm.out, hca, hcb]⟩
  clear Haa Hanti Htr Hma Hmb Hcm hab hba hca hcb Vcm hA hB hC lA lB lC e1 e2 e3 hs ra rb rc
  obtain ⟨m, hm⟩ : ∃ M, M = meetS a b := ⟨_, rfl⟩
  obtain ⟨n, hn⟩ : ∃ M, M = meetS b a := ⟨_, rfl⟩
  obtain ⟨o, ho⟩ : ∃ M, M = meetS b c := ⟨_, rfl⟩
  rw [← hm] at HRm HRq Vmn Vqk Vma Vmb Vcm'
  rw [← hn] at HRn Vmn
  rw [← ho] at HRo HRk Vqk
  obtain ⟨q, hq⟩ : ∃ M, M = meetS m c := ⟨_, rfl⟩
  obtain ⟨k, hk⟩ : ∃ M, M = meetS a o := ⟨_, rfl⟩
  rw [← hq] at HRq Vqk
  rw [← hk] at HRk Vqk
  have HMm := Aside0.mk hm.symm
  have HMn := Aside0.mk hn.symm
  have HMo := Aside0.mk ho.symm
  have HMq := Aside0.mk hq.symm
  have HMk := Aside0.mk hk.symm
  clear hm hn ho hq hk
  go_enter Try.func3, Try.ntmps3
  go_wp2_with ((with_reducible refine gate_dst (N := 1) rfl ?_); refine box_event ?hg (N := 1) ?hd (cs := #[.int .i64 p, .int .i64 r, .slice A la.length ca_, .slice B lb.length cb_, .slice C lc.length cc_]) (t := 24) ?hr ?_; (case hd => rfl); (case hg => rfl); (case hr => first | (go_simp; done) | (go_simp; rfl)); intro g1 hg w_0 hbox hb; have BX := Aside0.mk hbox; have HW_ := Aside0.mk (HW.out.trans (hb.mono HW.out.size)); clear HW hg hbox hb; have HW := HW_; clear HW_)
  refine (HFx.out _).mono ?_
  rintro e w_1 ⟨rfl, hb⟩
  have BX_ := Aside0.mk (blk_below BX.out hb)
  have HW_ := Aside0.mk (HW.out.trans (hb.mono HW.out.size))
  clear BX HW
  have BX := BX_
  have HW := HW_
  clear BX_ HW_
  clear hb HFx
  go_wp2_with ((with_reducible refine gate_dst (N := 34) rfl ?_); refine Aside0.out ?_)
  refine ⟨?_⟩
  have hx0 : _ = some (Value.int .i64 p) := (blk_cell BX.out 0).trans rfl
  have hx1 : _ = some (Value.int .i64 r) := (blk_cell BX.out 1).trans rfl
  have hx2 : _ = some (Value.slice A la.length ca_) := (blk_cell BX.out 2).trans rfl
  go_wp2_with fail
  refine (shapedC (S := a) A ca_ _ (Kd.C_below HCa.out HW.out) HLa.out He1.out).mono ?_
  rintro e w_2 ⟨Fa, fa, Aa, ca, Ba, da, rfl, l0, k0, l1, k1, hb⟩
  clear hx0 hx1 hx2
  have BX_ := Aside0.mk (blk_below BX.out hb)
  have HW_ := Aside0.mk (HW.out.trans (hb.mono HW.out.size))
  clear BX HW
  have BX := BX_
  have HW := HW_
  clear BX_ HW_
  clear hb
  have Hl0 := Aside0.mk l0
  have Hl1 := Aside0.mk l1
  have Hk0 := Aside0.mk k0
  have Hk1 := Aside0.mk k1
  clear l0 l1 k0 k1
  go_wp2_with (first | ((with_reducible refine gate_dst (N := 4) rfl ?_); refine box_event ?hg (N := 4) ?hd (cs := #[.int .i64 0, .int .i64 0, .int .i64 0, .slice none 0 0]) (t := 28) ?hr ?_; (case hd => rfl); (case hg => rfl); (case hr => first | (go_simp; done) | (go_simp; rfl)); intro g4 hg w_3 hbox hb; have HG1 := Aside0.mk hg; have HB1 := Aside0.mk hb; have BK1 := Aside0.mk hbox; clear hg hbox hb) | ((with_reducible refine gate_dst (N := 5) rfl ?_); refine box_event ?hg (N := 5) ?hd (cs := #[.slice none 0 0, .slice none 0 0]) (t := 31) ?hr ?_; (case hd => rfl); (case hg => rfl); (case hr => first | (go_simp; done) | (go_simp; rfl)); intro g5 hg w_4 hbox hb; have HG2 : Aside0 (w_2.heap.size ≤ g5) := ⟨by rw [hg]; exact HB1.out.size⟩; have HB2 := Aside0.mk (HB1.out.trans (hb.mono HB1.out.size)); have BK1_ := Aside0.mk (blk_below BK1.out hb); have BK2 := Aside0.mk hbox; clear hg hbox hb BK1 HB1; have BK1 := BK1_; clear BK1_; have hne : g4 ≠ g5 := blk_ne BK1.out BK2.out (by decide); have hz0 : w_4.cell? ⟨g4, 0, none⟩ = some (.int .i64 0) := (blk_cell BK1.out 0).trans rfl; have hf0 := blk_frozen BK1.out 0; have hz1 : w_4.cell? ⟨g4, 1, none⟩ = some (.int .i64 0) := (blk_cell BK1.out 1).trans rfl; have hf1 := blk_frozen BK1.out 1; have hz2 : w_4.cell? ⟨g4, 2, none⟩ = some (.int .i64 0) := (blk_cell BK1.out 2).trans rfl; have hf2 := blk_frozen BK1.out 2; have hz3 : w_4.cell? ⟨g4, 3, none⟩ = some (.slice none 0 0) := (blk_cell BK1.out 3).trans rfl; have hf3 := blk_frozen BK1.out 3; have hz4 : w_4.cell? ⟨g5, 0, none⟩ = some (.slice none 0 0) := (blk_cell BK2.out 0).trans rfl; have hf4 := blk_frozen BK2.out 0; have hz5 : w_4.cell? ⟨g5, 1, none⟩ = some (.slice none 0 0) := (blk_cell BK2.out 1).trans rfl; have hf5 := blk_frozen BK2.out 1) | ((with_reducible refine gate_dst (N := 44) rfl ?_); refine Aside0.out ?_))
  clear hne hz0 hf0 hz1 hf1 hz2 hf2 hz3 hf3 hz4 hf4 hz5 hf5
  obtain ⟨hb1, hb2, hb⟩ := two_stored (x0 := .int .i64 P) (x1 := .int .i64 R) (x2 := .int .i64 0) (x3 := .slice Fa 0 fa) (x4 := .slice Aa a.f0.length ca) (x5 := .slice Ba a.f1.length da) BK1.out BK2.out HB2.out (Nat.le_of_eq HG1.out.symm) HG2.out
  obtain ⟨w_5, hw⟩ : ∃ w, w = ((((((w_4.setCell ⟨g4, 0, none⟩ (.int .i64 P)).setCell ⟨g4, 1, none⟩ (.int .i64 R)).setCell ⟨g4, 2, none⟩ (.int .i64 0)).setCell ⟨g4, 3, none⟩ (.slice Fa 0 fa)).setCell ⟨g5, 0, none⟩ (.slice Aa a.f0.length ca)).setCell ⟨g5, 1, none⟩ (.slice Ba a.f1.length da)) := ⟨_, rfl⟩
  rw [← hw] at hb1 hb2 hb ⊢
  clear hw
  have BX_ := Aside0.mk (blk_below BX.out hb)
  have HW_ := Aside0.mk (HW.out.trans (hb.mono HW.out.size))
  clear BX HW
  have BX := BX_
  have HW := HW_
  clear BX_ HW_
  have HSa : Aside0 (SumC w_5 g5 Aa ca Ba da a) := ⟨⟨hb2, Hl0.out, Kd.C_below Hk0.out hb, Hl1.out, Kd.C_below Hk1.out hb⟩⟩
  have BF := Aside0.mk hb1
  clear hb1 hb2 hb Hl0 Hl1 Hk0 Hk1 BK1 BK2 HB2 HG1 HG2
  refine ⟨?_⟩
  have hx0 : _ = some (Value.int .i64 p) := (blk_cell BX.out 0).trans rfl
  have hx1 : _ = some (Value.int .i64 r) := (blk_cell BX.out 1).trans rfl
  have hx2 : _ = some (Value.slice B lb.length cb_) := (blk_cell BX.out 3).trans rfl
  go_wp2_with fail
  refine (shapedC (S := b) B cb_ _ (Kd.C_below HCb.out HW.out) HLb.out He2.out).mono ?_
  rintro e w_6 ⟨Fb, fb, Ab, cb, Bb, db, rfl, l0, k0, l1, k1, hb⟩
  clear hx0 hx1 hx2
  have BX_ := Aside0.mk (blk_below BX.out hb)
  have HW_ := Aside0.mk (HW.out.trans (hb.mono HW.out.size))
  have BF_ := Aside0.mk (blk_below BF.out hb)
  have HSa_ := Aside0.mk (HSa.out.below hb)
  clear BX HW BF HSa
  have BX := BX_
  have HW := HW_
  have BF := BF_
  have HSa := HSa_
  clear BX_ HW_ BF_ HSa_
  clear hb
  have Hl0 := Aside0.mk l0
  have Hl1 := Aside0.mk l1
  have Hk0 := Aside0.mk k0
  have Hk1 := Aside0.mk k1
  clear l0 l1 k0 k1
  go_wp2_with (first | ((with_reducible refine gate_dst (N := 6) rfl ?_); refine box_event ?hg (N := 6) ?hd (cs := #[.int .i64 0, .int .i64 0, .int .i64 0, .slice none 0 0]) (t := 28) ?hr ?_; (case hd => rfl); (case hg => rfl); (case hr => first | (go_simp; done) | (go_simp; rfl)); intro g6 hg w_7 hbox hb; have HG1 := Aside0.mk hg; have HB1 := Aside0.mk hb; have BK1 := Aside0.mk hbox; clear hg hbox hb) | ((with_reducible refine gate_dst (N := 7) rfl ?_); refine box_event ?hg (N := 7) ?hd (cs := #[.slice none 0 0, .slice none 0 0]) (t := 31) ?hr ?_; (case hd => rfl); (case hg => rfl); (case hr => first | (go_simp; done) | (go_simp; rfl)); intro g7 hg w_8 hbox hb; have HG2 : Aside0 (w_6.heap.size ≤ g7) := ⟨by rw [hg]; exact HB1.out.size⟩; have HB2 := Aside0.mk (HB1.out.trans (hb.mono HB1.out.size)); have BK1_ := Aside0.mk (blk_below BK1.out hb); have BK2 := Aside0.mk hbox; clear hg hbox hb BK1 HB1; have BK1 := BK1_; clear BK1_; have hne : g6 ≠ g7 := blk_ne BK1.out BK2.out (by decide); have hz0 : w_8.cell? ⟨g6, 0, none⟩ = some (.int .i64 0) := (blk_cell BK1.out 0).trans rfl; have hf0 := blk_frozen BK1.out 0; have hz1 : w_8.cell? ⟨g6, 1, none⟩ = some (.int .i64 0) := (blk_cell BK1.out 1).trans rfl; have hf1 := blk_frozen BK1.out 1; have hz2 : w_8.cell? ⟨g6, 2, none⟩ = some (.int .i64 0) := (blk_cell BK1.out 2).trans rfl; have hf2 := blk_frozen BK1.out 2; have hz3 : w_8.cell? ⟨g6, 3, none⟩ = some (.slice none 0 0) := (blk_cell BK1.out 3).trans rfl; have hf3 := blk_frozen BK1.out 3; have hz4 : w_8.cell? ⟨g7, 0, none⟩ = some (.slice none 0 0) := (blk_cell BK2.out 0).trans rfl; have hf4 := blk_frozen BK2.out 0; have hz5 : w_8.cell? ⟨g7, 1, none⟩ = some (.slice none 0 0) := (blk_cell BK2.out 1).trans rfl; have hf5 := blk_frozen BK2.out 1) | ((with_reducible refine gate_dst (N := 54) rfl ?_); refine Aside0.out ?_))
  clear hne hz0 hf0 hz1 hf1 hz2 hf2 hz3 hf3 hz4 hf4 hz5 hf5
  obtain ⟨hb1, hb2, hb⟩ := two_stored (x0 := .int .i64 P) (x1 := .int .i64 R) (x2 := .int .i64 0) (x3 := .slice Fb 0 fb) (x4 := .slice Ab b.f0.length cb) (x5 := .slice Bb b.f1.length db) BK1.out BK2.out HB2.out (Nat.le_of_eq HG1.out.symm) HG2.out
  obtain ⟨w_9, hw⟩ : ∃ w, w = ((((((w_8.setCell ⟨g6, 0, none⟩ (.int .i64 P)).setCell ⟨g6, 1, none⟩ (.int .i64 R)).setCell ⟨g6, 2, none⟩ (.int .i64 0)).setCell ⟨g6, 3, none⟩ (.slice Fb 0 fb)).setCell ⟨g7, 0, none⟩ (.slice Ab b.f0.length cb)).setCell ⟨g7, 1, none⟩ (.slice Bb b.f1.length db)) := ⟨_, rfl⟩
  rw [← hw] at hb1 hb2 hb ⊢
  clear hw
  have BX_ := Aside0.mk (blk_below BX.out hb)
  have HW_ := Aside0.mk (HW.out.trans (hb.mono HW.out.size))
  have BF_ := Aside0.mk (blk_below BF.out hb)
  have HSa_ := Aside0.mk (HSa.out.below hb)
  clear BX HW BF HSa
  have BX := BX_
  have HW := HW_
  have BF := BF_
  have HSa := HSa_
  clear BX_ HW_ BF_ HSa_
  have HSb : Aside0 (SumC w_9 g7 Ab cb Bb db b) := ⟨⟨hb2, Hl0.out, Kd.C_below Hk0.out hb, Hl1.out, Kd.C_below Hk1.out hb⟩⟩
  clear hb1 hb2 hb Hl0 Hl1 Hk0 Hk1 BK1 BK2 HB2 HG1 HG2
  refine ⟨?_⟩
  have hx0 : _ = some (Value.int .i64 p) := (blk_cell BX.out 0).trans rfl
  have hx1 : _ = some (Value.int .i64 r) := (blk_cell BX.out 1).trans rfl
  have hx2 : _ = some (Value.slice C lc.length cc_) := (blk_cell BX.out 4).trans rfl
  go_wp2_with fail
  refine (shapedC (S := c) C cc_ _ (Kd.C_below HCc.out HW.out) HLc.out He3.out).mono ?_
  rintro e w_10 ⟨Fc, fc, Ac, cc, Bc, dc, rfl, l0, k0, l1, k1, hb⟩
  clear hx0 hx1 hx2
  have BX_ := Aside0.mk (blk_below BX.out hb)
  have HW_ := Aside0.mk (HW.out.trans (hb.mono HW.out.size))
  have BF_ := Aside0.mk (blk_below BF.out hb)
  have HSa_ := Aside0.mk (HSa.out.below hb)
  have HSb_ := Aside0.mk (HSb.out.below hb)
  clear BX HW BF HSa HSb
  have BX := BX_
  have HW := HW_
  have BF := BF_
  have HSa := HSa_
  have HSb := HSb_
  clear BX_ HW_ BF_ HSa_ HSb_
  clear hb
  have Hl0 := Aside0.mk l0
  have Hl1 := Aside0.mk l1
  have Hk0 := Aside0.mk k0
  have Hk1 := Aside0.mk k1
  clear l0 l1 k0 k1
  go_wp2_with (first | ((with_reducible refine gate_dst (N := 8) rfl ?_); refine box_event ?hg (N := 8) ?hd (cs := #[.int .i64 0, .int .i64 0, .int .i64 0, .slice none 0 0]) (t := 28) ?hr ?_; (case hd => rfl); (case hg => rfl); (case hr => first | (go_simp; done) | (go_simp; rfl)); intro g8 hg w_11 hbox hb; have HG1 := Aside0.mk hg; have HB1 := Aside0.mk hb; have BK1 := Aside0.mk hbox; clear hg hbox hb) | ((with_reducible refine gate_dst (N := 9) rfl ?_); refine box_event ?hg (N := 9) ?hd (cs := #[.slice none 0 0, .slice none 0 0]) (t := 31) ?hr ?_; (case hd => rfl); (case hg => rfl); (case hr => first | (go_simp; done) | (go_simp; rfl)); intro g9 hg w_12 hbox hb; have HG2 : Aside0 (w_10.heap.size ≤ g9) := ⟨by rw [hg]; exact HB1.out.size⟩; have HB2 := Aside0.mk (HB1.out.trans (hb.mono HB1.out.size)); have BK1_ := Aside0.mk (blk_below BK1.out hb); have BK2 := Aside0.mk hbox; clear hg hbox hb BK1 HB1; have BK1 := BK1_; clear BK1_; have hne : g8 ≠ g9 := blk_ne BK1.out BK2.out (by decide); have hz0 : w_12.cell? ⟨g8, 0, none⟩ = some (.int .i64 0) := (blk_cell BK1.out 0).trans rfl; have hf0 := blk_frozen BK1.out 0; have hz1 : w_12.cell? ⟨g8, 1, none⟩ = some (.int .i64 0) := (blk_cell BK1.out 1).trans rfl; have hf1 := blk_frozen BK1.out 1; have hz2 : w_12.cell? ⟨g8, 2, none⟩ = some (.int .i64 0) := (blk_cell BK1.out 2).trans rfl; have hf2 := blk_frozen BK1.out 2; have hz3 : w_12.cell? ⟨g8, 3, none⟩ = some (.slice none 0 0) := (blk_cell BK1.out 3).trans rfl; have hf3 := blk_frozen BK1.out 3; have hz4 : w_12.cell? ⟨g9, 0, none⟩ = some (.slice none 0 0) := (blk_cell BK2.out 0).trans rfl; have hf4 := blk_frozen BK2.out 0; have hz5 : w_12.cell? ⟨g9, 1, none⟩ = some (.slice none 0 0) := (blk_cell BK2.out 1).trans rfl; have hf5 := blk_frozen BK2.out 1) | ((with_reducible refine gate_dst (N := 63) rfl ?_); refine Aside0.out ?_))
  clear hne hz0 hf0 hz1 hf1 hz2 hf2 hz3 hf3 hz4 hf4 hz5 hf5
  obtain ⟨hb1, hb2, hb⟩ := two_stored (x0 := .int .i64 P) (x1 := .int .i64 R) (x2 := .int .i64 0) (x3 := .slice Fc 0 fc) (x4 := .slice Ac c.f0.length cc) (x5 := .slice Bc c.f1.length dc) BK1.out BK2.out HB2.out (Nat.le_of_eq HG1.out.symm) HG2.out
  obtain ⟨w_13, hw⟩ : ∃ w, w = ((((((w_12.setCell ⟨g8, 0, none⟩ (.int .i64 P)).setCell ⟨g8, 1, none⟩ (.int .i64 R)).setCell ⟨g8, 2, none⟩ (.int .i64 0)).setCell ⟨g8, 3, none⟩ (.slice Fc 0 fc)).setCell ⟨g9, 0, none⟩ (.slice Ac c.f0.length cc)).setCell ⟨g9, 1, none⟩ (.slice Bc c.f1.length dc)) := ⟨_, rfl⟩
  rw [← hw] at hb1 hb2 hb ⊢
  clear hw
  have BX_ := Aside0.mk (blk_below BX.out hb)
  have HW_ := Aside0.mk (HW.out.trans (hb.mono HW.out.size))
  have BF_ := Aside0.mk (blk_below BF.out hb)
  have HSa_ := Aside0.mk (HSa.out.below hb)
  have HSb_ := Aside0.mk (HSb.out.below hb)
  clear BX HW BF HSa HSb
  have BX := BX_
  have HW := HW_
  have BF := BF_
  have HSa := HSa_
  have HSb := HSb_
  clear BX_ HW_ BF_ HSa_ HSb_
  have HSc : Aside0 (SumC w_13 g9 Ac cc Bc dc c) := ⟨⟨hb2, Hl0.out, Kd.C_below Hk0.out hb, Hl1.out, Kd.C_below Hk1.out hb⟩⟩
  clear hb1 hb2 hb Hl0 Hl1 Hk0 Hk1 BK1 BK2 HB2 HG1 HG2
  clear BX HCa HCb HCc HLa HLb HLc He1 He2 He3
  refine ⟨?_⟩
  have hx0 := HSa.out.cell0
  have hx1 := HSa.out.cell1
  have hy0 := HSb.out.cell0
  have hy1 := HSb.out.cell1
  go_wp2_with fail
  refine (aboveC HSa.out HSb.out HRa.out HRb.out HSh.out Vab.out).mono ?_
  rintro e w_14 ⟨rfl, hb⟩
  clear hx0 hx1 hy0 hy1
  have HW_ := Aside0.mk (HW.out.trans (hb.mono HW.out.size))
  have BF_ := Aside0.mk (blk_below BF.out hb)
  have HSa_ := Aside0.mk (HSa.out.below hb)
  have HSb_ := Aside0.mk (HSb.out.below hb)
  have HSc_ := Aside0.mk (HSc.out.below hb)
  clear HW BF HSa HSb HSc
  have HW := HW_
  have BF := BF_
  have HSa := HSa_
  have HSb := HSb_
  have HSc := HSc_
  clear HW_ BF_ HSa_ HSb_ HSc_
  clear hb
  go_wp2_with ((with_reducible refine gate_dst (N := 66) rfl ?_); refine Aside0.out ?_)
  refine ⟨?_⟩
  have hx0 := HSb.out.cell0
  have hx1 := HSb.out.cell1
  have hy0 := HSa.out.cell0
  have hy1 := HSa.out.cell1
  go_wp2_with fail
  refine (aboveC HSb.out HSa.out HRb.out HRa.out HSh.out Vba.out).mono ?_
  rintro e w_15 ⟨rfl, hb⟩
  clear hx0 hx1 hy0 hy1
  have HW_ := Aside0.mk (HW.out.trans (hb.mono HW.out.size))
  have BF_ := Aside0.mk (blk_below BF.out hb)
  have HSa_ := Aside0.mk (HSa.out.below hb)
  have HSb_ := Aside0.mk (HSb.out.below hb)
  have HSc_ := Aside0.mk (HSc.out.below hb)
  clear HW BF HSa HSb HSc
  have HW := HW_
  have BF := BF_
  have HSa := HSa_
  have HSb := HSb_
  have HSc := HSc_
  clear HW_ BF_ HSa_ HSb_ HSc_
  clear hb
  go_wp2_with ((with_reducible refine gate_dst (N := 69) rfl ?_); refine Aside0.out ?_)
  refine ⟨?_⟩
  have hx0 := HSb.out.cell0
  have hx1 := HSb.out.cell1
  have hy0 := HSc.out.cell0
  have hy1 := HSc.out.cell1
  go_wp2_with fail
  refine (aboveC HSb.out HSc.out HRb.out HRc.out HSh.out Vbc.out).mono ?_
  rintro e w_16 ⟨rfl, hb⟩
  clear hx0 hx1 hy0 hy1
  have HW_ := Aside0.mk (HW.out.trans (hb.mono HW.out.size))
  have BF_ := Aside0.mk (blk_below BF.out hb)
  have HSa_ := Aside0.mk (HSa.out.below hb)
  have HSb_ := Aside0.mk (HSb.out.below hb)
  have HSc_ := Aside0.mk (HSc.out.below hb)
  clear HW BF HSa HSb HSc
  have HW := HW_
  have BF := BF_
  have HSa := HSa_
  have HSb := HSb_
  have HSc := HSc_
  clear HW_ BF_ HSa_ HSb_ HSc_
  clear hb
  go_wp2_with ((with_reducible refine gate_dst (N := 72) rfl ?_); refine Aside0.out ?_)
  refine ⟨?_⟩
  have hx0 := HSa.out.cell0
  have hx1 := HSa.out.cell1
  have hy0 := HSc.out.cell0
  have hy1 := HSc.out.cell1
  go_wp2_with fail
  refine (aboveC HSa.out HSc.out HRa.out HRc.out HSh.out Vac.out).mono ?_
  rintro e w_17 ⟨rfl, hb⟩
  clear hx0 hx1 hy0 hy1
  have HW_ := Aside0.mk (HW.out.trans (hb.mono HW.out.size))
  have BF_ := Aside0.mk (blk_below BF.out hb)
  have HSa_ := Aside0.mk (HSa.out.below hb)
  have HSb_ := Aside0.mk (HSb.out.below hb)
  have HSc_ := Aside0.mk (HSc.out.below hb)
  clear HW BF HSa HSb HSc
  have HW := HW_
  have BF := BF_
  have HSa := HSa_
  have HSb := HSb_
  have HSc := HSc_
  clear HW_ BF_ HSa_ HSb_ HSc_
  clear hb
  go_wp2_with ((with_reducible refine gate_dst (N := 75) rfl ?_); refine Aside0.out ?_)
  refine ⟨?_⟩
  have hx0 := HSa.out.cell0
  have hx1 := HSa.out.cell1
  have hy0 := HSb.out.cell0
  have hy1 := HSb.out.cell1
  go_wp2_with fail
  refine (eqC HSa.out HSb.out HRa.out HSh.out Vsame.out).mono ?_
  rintro e w_18 ⟨rfl, hb⟩
  clear hx0 hx1 hy0 hy1
  have HW_ := Aside0.mk (HW.out.trans (hb.mono HW.out.size))
  have BF_ := Aside0.mk (blk_below BF.out hb)
  have HSa_ := Aside0.mk (HSa.out.below hb)
  have HSb_ := Aside0.mk (HSb.out.below hb)
  have HSc_ := Aside0.mk (HSc.out.below hb)
  clear HW BF HSa HSb HSc
  have HW := HW_
  have BF := BF_
  have HSa := HSa_
  have HSb := HSb_
  have HSc := HSc_
  clear HW_ BF_ HSa_ HSb_ HSc_
  clear hb
  go_wp2_with ((with_reducible refine gate_dst (N := 78) rfl ?_); refine Aside0.out ?_)
  refine ⟨?_⟩
  have hx0 := HSa.out.cell0
  have hx1 := HSa.out.cell1
  go_wp2_with fail
  refine (aboveC HSa.out HSa.out HRa.out HRa.out HSh.out Vaa.out).mono ?_
  rintro e w_19 ⟨rfl, hb⟩
  clear hx0 hx1
  have HW_ := Aside0.mk (HW.out.trans (hb.mono HW.out.size))
  have BF_ := Aside0.mk (blk_below BF.out hb)
  have HSa_ := Aside0.mk (HSa.out.below hb)
  have HSb_ := Aside0.mk (HSb.out.below hb)
  have HSc_ := Aside0.mk (HSc.out.below hb)
  clear HW BF HSa HSb HSc
  have HW := HW_
  have BF := BF_
  have HSa := HSa_
  have HSb := HSb_
  have HSc := HSc_
  clear HW_ BF_ HSa_ HSb_ HSc_
  clear hb
  have hx0 := HSa.out.cell0
  have hx1 := HSa.out.cell1
  have hz0 : _ = some (Value.int .i64 P) := (blk_cell BF.out 0).trans rfl
  have hz1 : _ = some (Value.int .i64 R) := (blk_cell BF.out 1).trans rfl
  have hz2 : _ = some (Value.int .i64 0) := (blk_cell BF.out 2).trans rfl
  have hz3 : _ = some (Value.slice Fa 0 fa) := (blk_cell BF.out 3).trans rfl
  go_wp2_with fail
  refine (checkC P R 0 Fa 0 fa HSa.out HRa.out HSh.out).mono ?_
  rintro e w_20 ⟨rfl, hb⟩
  clear hx0 hx1
  clear hz0 hz1 hz2 hz3
  clear BF
  have HW_ := Aside0.mk (HW.out.trans (hb.mono HW.out.size))
  have HSa_ := Aside0.mk (HSa.out.below hb)
  have HSb_ := Aside0.mk (HSb.out.below hb)
  have HSc_ := Aside0.mk (HSc.out.below hb)
  clear HW HSa HSb HSc
  have HW := HW_
  have HSa := HSa_
  have HSb := HSb_
  have HSc := HSc_
  clear HW_ HSa_ HSb_ HSc_
  clear hb
  go_wp2_with ((with_reducible refine gate_dst (N := 112) rfl ?_); refine Aside0.out ?_)
  clear hnn
  refine ⟨?_⟩
  have hx0 := HSa.out.cell0
  have hx1 := HSa.out.cell1
  have hy0 := HSb.out.cell0
  have hy1 := HSb.out.cell1
  go_wp2_with fail
  refine (meetC HSa.out HSb.out HRa.out HRb.out HSh.out HMm.out).mono ?_
  rintro e w_21 ⟨Am, cm, Bm, dm, rfl, hr0, hr1, hb⟩
  clear hx0 hx1 hy0 hy1
  have HW_ := Aside0.mk (HW.out.trans (hb.mono HW.out.size))
  have HSa_ := Aside0.mk (HSa.out.below hb)
  have HSb_ := Aside0.mk (HSb.out.below hb)
  have HSc_ := Aside0.mk (HSc.out.below hb)
  clear HW HSa HSb HSc
  have HW := HW_
  have HSa := HSa_
  have HSb := HSb_
  have HSc := HSc_
  clear HW_ HSa_ HSb_ HSc_
  clear hb
  have HRx := Aside0.mk hr0
  have HRy := Aside0.mk hr1
  clear hr0 hr1
  go_wp2_with (first | ((with_reducible refine gate_dst (N := 16) rfl ?_); refine box_event ?hg (N := 16) ?hd (cs := #[.slice none 0 0, .slice none 0 0]) (t := 31) ?hr ?_; (case hd => rfl); (case hg => rfl); (case hr => first | (go_simp; done) | (go_simp; rfl)); intro g16 hg w_22 hbox hb; have HG := Aside0.mk hg; have HBx := Aside0.mk hb; have BKx := Aside0.mk hbox; have hz0 : w_22.cell? ⟨g16, 0, none⟩ = some (.slice none 0 0) := (blk_cell BKx.out 0).trans rfl; have hz1 : w_22.cell? ⟨g16, 1, none⟩ = some (.slice none 0 0) := (blk_cell BKx.out 1).trans rfl; have hf0 := blk_frozen BKx.out 0; have hf1 := blk_frozen BKx.out 1; clear hg hbox hb) | ((with_reducible refine gate_dst (N := 118) rfl ?_); refine Aside0.out ?_))
  clear hz0 hz1 hf0 hf1
  obtain ⟨hS, hb⟩ := one_stored HBx.out BKx.out (Nat.le_of_eq HG.out.symm) HRx.out HRy.out
  obtain ⟨w_23, hw⟩ : ∃ w_23, w_23 = ((w_22.setCell ⟨g16, 0, none⟩ (.slice Am m.f0.length cm)).setCell ⟨g16, 1, none⟩ (.slice Bm m.f1.length dm)) := ⟨_, rfl⟩
  rw [← hw] at hS hb ⊢
  clear hw
  have HW_ := Aside0.mk (HW.out.trans (hb.mono HW.out.size))
  have HSa_ := Aside0.mk (HSa.out.below hb)
  have HSb_ := Aside0.mk (HSb.out.below hb)
  have HSc_ := Aside0.mk (HSc.out.below hb)
  clear HW HSa HSb HSc
  have HW := HW_
  have HSa := HSa_
  have HSb := HSb_
  have HSc := HSc_
  clear HW_ HSa_ HSb_ HSc_
  have HSm := Aside0.mk hS
  clear hS hb HRx HRy HBx BKx
  clear HG
  have HS0 := Aside0.mk HSa.out
  have HW14 := Aside0.mk HW.out.size
  have HZ := Aside0.mk (Below.refl w_23.heap.size w_23)
  refine ⟨?_⟩
  have hx0 := HSb.out.cell0
  have hx1 := HSb.out.cell1
  have hy0 := HSa.out.cell0
  have hy1 := HSa.out.cell1
  go_wp2_with fail
  refine (meetC HSb.out HSa.out HRb.out HRa.out HSh.out HMn.out).mono ?_
  rintro e w_24 ⟨An, cn, Bn, dn, rfl, hr0, hr1, hb⟩
  clear hx0 hx1 hy0 hy1
  have HW_ := Aside0.mk (HW.out.trans (hb.mono HW.out.size))
  have HSa_ := Aside0.mk (HSa.out.below hb)
  have HSb_ := Aside0.mk (HSb.out.below hb)
  have HSc_ := Aside0.mk (HSc.out.below hb)
  have HSm_ := Aside0.mk (HSm.out.below hb)
  have HZ_ := Aside0.mk (HZ.out.trans (hb.mono HZ.out.size))
  clear HW HSa HSb HSc HSm HZ
  have HW := HW_
  have HSa := HSa_
  have HSb := HSb_
  have HSc := HSc_
  have HSm := HSm_
  have HZ := HZ_
  clear HW_ HSa_ HSb_ HSc_ HSm_ HZ_
  clear hb
  have HRx := Aside0.mk hr0
  have HRy := Aside0.mk hr1
  clear hr0 hr1
  have HG18s := Aside0.mk HZ.out.size
  go_wp2_with (first | ((with_reducible refine gate_dst (N := 18) rfl ?_); refine box_event ?hg (N := 18) ?hd (cs := #[.slice none 0 0, .slice none 0 0]) (t := 31) ?hr ?_; (case hd => rfl); (case hg => rfl); (case hr => first | (go_simp; done) | (go_simp; rfl)); intro g18 hg w_25 hbox hb; have HG := Aside0.mk hg; have HBx := Aside0.mk hb; have BKx := Aside0.mk hbox; have hz0 : w_25.cell? ⟨g18, 0, none⟩ = some (.slice none 0 0) := (blk_cell BKx.out 0).trans rfl; have hz1 : w_25.cell? ⟨g18, 1, none⟩ = some (.slice none 0 0) := (blk_cell BKx.out 1).trans rfl; have hf0 := blk_frozen BKx.out 0; have hf1 := blk_frozen BKx.out 1; clear hg hbox hb) | ((with_reducible refine gate_dst (N := 123) rfl ?_); refine Aside0.out ?_))
  clear hz0 hz1 hf0 hf1
  obtain ⟨hS, hb⟩ := one_stored HBx.out BKx.out (Nat.le_of_eq HG.out.symm) HRx.out HRy.out
  obtain ⟨w_26, hw⟩ : ∃ w_26, w_26 = ((w_25.setCell ⟨g18, 0, none⟩ (.slice An n.f0.length cn)).setCell ⟨g18, 1, none⟩ (.slice Bn n.f1.length dn)) := ⟨_, rfl⟩
  rw [← hw] at hS hb ⊢
  clear hw
  have HW_ := Aside0.mk (HW.out.trans (hb.mono HW.out.size))
  have HSa_ := Aside0.mk (HSa.out.below hb)
  have HSb_ := Aside0.mk (HSb.out.below hb)
  have HSc_ := Aside0.mk (HSc.out.below hb)
  have HSm_ := Aside0.mk (HSm.out.below hb)
  have HZ_ := Aside0.mk (HZ.out.trans (hb.mono HZ.out.size))
  clear HW HSa HSb HSc HSm HZ
  have HW := HW_
  have HSa := HSa_
  have HSb := HSb_
  have HSc := HSc_
  have HSm := HSm_
  have HZ := HZ_
  clear HW_ HSa_ HSb_ HSc_ HSm_ HZ_
  have HSn := Aside0.mk hS
  clear hS hb HRx HRy HBx BKx
  have HG18 : Aside0 (w_23.heap.size ≤ g18) := ⟨by rw [HG.out]; exact HG18s.out⟩
  have HGL := Aside0.mk (blk_lt HSn.out.blk)
  skip
  clear HG HG18s
  refine ⟨?_⟩
  have hx0 := HSm.out.cell0
  have hx1 := HSm.out.cell1
  have hy0 := HSn.out.cell0
  have hy1 := HSn.out.cell1
  go_wp2_with fail
  refine (eqC HSm.out HSn.out HRm.out HSh.out Vmn.out).mono ?_
  rintro e w_27 ⟨rfl, hb⟩
  clear hx0 hx1 hy0 hy1
  have HW_ := Aside0.mk (HW.out.trans (hb.mono HW.out.size))
  have HSa_ := Aside0.mk (HSa.out.below hb)
  have HSb_ := Aside0.mk (HSb.out.below hb)
  have HSc_ := Aside0.mk (HSc.out.below hb)
  have HSm_ := Aside0.mk (HSm.out.below hb)
  have HZ_ := Aside0.mk (HZ.out.trans (hb.mono HZ.out.size))
  have HSn_ := Aside0.mk (HSn.out.below hb)
  clear HW HSa HSb HSc HSm HZ HSn
  have HW := HW_
  have HSa := HSa_
  have HSb := HSb_
  have HSc := HSc_
  have HSm := HSm_
  have HZ := HZ_
  have HSn := HSn_
  clear HW_ HSa_ HSb_ HSc_ HSm_ HZ_ HSn_
  clear hb
  go_wp2_with ((with_reducible refine gate_dst (N := 126) rfl ?_); refine Aside0.out ?_)
  refine ⟨?_⟩
  have hx0 := HSm.out.cell0
  have hx1 := HSm.out.cell1
  have hy0 := HSa.out.cell0
  have hy1 := HSa.out.cell1
  go_wp2_with fail
  refine (aboveC HSm.out HSa.out HRm.out HRa.out HSh.out Vma.out).mono ?_
  rintro e w_28 ⟨rfl, hb⟩
  clear hx0 hx1 hy0 hy1
  have HW_ := Aside0.mk (HW.out.trans (hb.mono HW.out.size))
  have HSa_ := Aside0.mk (HSa.out.below hb)
  have HSb_ := Aside0.mk (HSb.out.below hb)
  have HSc_ := Aside0.mk (HSc.out.below hb)
  have HSm_ := Aside0.mk (HSm.out.below hb)
  have HZ_ := Aside0.mk (HZ.out.trans (hb.mono HZ.out.size))
  have HSn_ := Aside0.mk (HSn.out.below hb)
  clear HW HSa HSb HSc HSm HZ HSn
  have HW := HW_
  have HSa := HSa_
  have HSb := HSb_
  have HSc := HSc_
  have HSm := HSm_
  have HZ := HZ_
  have HSn := HSn_
  clear HW_ HSa_ HSb_ HSc_ HSm_ HZ_ HSn_
  clear hb
  go_wp2_with ((with_reducible refine gate_dst (N := 129) rfl ?_); refine Aside0.out ?_)
  refine ⟨?_⟩
  have hx0 := HSm.out.cell0
  have hx1 := HSm.out.cell1
  have hy0 := HSb.out.cell0
  have hy1 := HSb.out.cell1
  go_wp2_with fail
  refine (aboveC HSm.out HSb.out HRm.out HRb.out HSh.out Vmb.out).mono ?_
  rintro e w_29 ⟨rfl, hb⟩
  clear hx0 hx1 hy0 hy1
  have HW_ := Aside0.mk (HW.out.trans (hb.mono HW.out.size))
  have HSa_ := Aside0.mk (HSa.out.below hb)
  have HSb_ := Aside0.mk (HSb.out.below hb)
  have HSc_ := Aside0.mk (HSc.out.below hb)
  have HSm_ := Aside0.mk (HSm.out.below hb)
  have HZ_ := Aside0.mk (HZ.out.trans (hb.mono HZ.out.size))
  have HSn_ := Aside0.mk (HSn.out.below hb)
  clear HW HSa HSb HSc HSm HZ HSn
  have HW := HW_
  have HSa := HSa_
  have HSb := HSb_
  have HSc := HSc_
  have HSm := HSm_
  have HZ := HZ_
  have HSn := HSn_
  clear HW_ HSa_ HSb_ HSc_ HSm_ HZ_ HSn_
  clear hb
  go_wp2_with ((with_reducible refine gate_dst (N := 132) rfl ?_); refine Aside0.out ?_)
  refine ⟨?_⟩
  have hx0 := HSc.out.cell0
  have hx1 := HSc.out.cell1
  have hy0 := HSm.out.cell0
  have hy1 := HSm.out.cell1
  go_wp2_with fail
  refine (aboveC HSc.out HSm.out HRc.out HRm.out HSh.out Vcm'.out).mono ?_
  rintro e w_30 ⟨rfl, hb⟩
  clear hx0 hx1 hy0 hy1
  have HW_ := Aside0.mk (HW.out.trans (hb.mono HW.out.size))
  have HSa_ := Aside0.mk (HSa.out.below hb)
  have HSb_ := Aside0.mk (HSb.out.below hb)
  have HSc_ := Aside0.mk (HSc.out.below hb)
  have HSm_ := Aside0.mk (HSm.out.below hb)
  have HZ_ := Aside0.mk (HZ.out.trans (hb.mono HZ.out.size))
  have HSn_ := Aside0.mk (HSn.out.below hb)
  clear HW HSa HSb HSc HSm HZ HSn
  have HW := HW_
  have HSa := HSa_
  have HSb := HSb_
  have HSc := HSc_
  have HSm := HSm_
  have HZ := HZ_
  have HSn := HSn_
  clear HW_ HSa_ HSb_ HSc_ HSm_ HZ_ HSn_
  clear hb
  go_wp2_with ((with_reducible refine gate_dst (N := 135) rfl ?_); refine Aside0.out ?_)
  refine ⟨?_⟩
  have hx0 := HSc.out.cell0
  have hx1 := HSc.out.cell1
  have hy0 := HSa.out.cell0
  have hy1 := HSa.out.cell1
  go_wp2_with fail
  refine (aboveC HSc.out HSa.out HRc.out HRa.out HSh.out Vca.out).mono ?_
  rintro e w_31 ⟨rfl, hb⟩
  clear hx0 hx1 hy0 hy1
  have HW_ := Aside0.mk (HW.out.trans (hb.mono HW.out.size))
  have HSa_ := Aside0.mk (HSa.out.below hb)
  have HSb_ := Aside0.mk (HSb.out.below hb)
  have HSc_ := Aside0.mk (HSc.out.below hb)
  have HSm_ := Aside0.mk (HSm.out.below hb)
  have HZ_ := Aside0.mk (HZ.out.trans (hb.mono HZ.out.size))
  have HSn_ := Aside0.mk (HSn.out.below hb)
  clear HW HSa HSb HSc HSm HZ HSn
  have HW := HW_
  have HSa := HSa_
  have HSb := HSb_
  have HSc := HSc_
  have HSm := HSm_
  have HZ := HZ_
  have HSn := HSn_
  clear HW_ HSa_ HSb_ HSc_ HSm_ HZ_ HSn_
  clear hb
  go_wp2_with ((with_reducible refine gate_dst (N := 138) rfl ?_); refine Aside0.out ?_)
  refine ⟨?_⟩
  have hx0 := HSc.out.cell0
  have hx1 := HSc.out.cell1
  have hy0 := HSb.out.cell0
  have hy1 := HSb.out.cell1
  go_wp2_with fail
  refine (aboveC HSc.out HSb.out HRc.out HRb.out HSh.out Vcb.out).mono ?_
  rintro e w_32 ⟨rfl, hb⟩
  clear hx0 hx1 hy0 hy1
  have HW_ := Aside0.mk (HW.out.trans (hb.mono HW.out.size))
  have HSa_ := Aside0.mk (HSa.out.below hb)
  have HSb_ := Aside0.mk (HSb.out.below hb)
  have HSc_ := Aside0.mk (HSc.out.below hb)
  have HSm_ := Aside0.mk (HSm.out.below hb)
  have HZ_ := Aside0.mk (HZ.out.trans (hb.mono HZ.out.size))
  have HSn_ := Aside0.mk (HSn.out.below hb)
  clear HW HSa HSb HSc HSm HZ HSn
  have HW := HW_
  have HSa := HSa_
  have HSb := HSb_
  have HSc := HSc_
  have HSm := HSm_
  have HZ := HZ_
  have HSn := HSn_
  clear HW_ HSa_ HSb_ HSc_ HSm_ HZ_ HSn_
  clear hb
  go_wp2_with ((with_reducible refine gate_dst (N := 142) rfl ?_); refine Aside0.out ?_)
  refine ⟨?_⟩
  have hx0 := HSm.out.cell0
  have hx1 := HSm.out.cell1
  have hy0 := HSc.out.cell0
  have hy1 := HSc.out.cell1
  go_wp2_with fail
  refine (meetC HSm.out HSc.out HRm.out HRc.out HSh.out HMq.out).mono ?_
  rintro e w_33 ⟨Aq, cq, Bq, dq, rfl, hr0, hr1, hb⟩
  clear hx0 hx1 hy0 hy1
  have HW_ := Aside0.mk (HW.out.trans (hb.mono HW.out.size))
  have HSa_ := Aside0.mk (HSa.out.below hb)
  have HSb_ := Aside0.mk (HSb.out.below hb)
  have HSc_ := Aside0.mk (HSc.out.below hb)
  have HSm_ := Aside0.mk (HSm.out.below hb)
  have HZ_ := Aside0.mk (HZ.out.trans (hb.mono HZ.out.size))
  have HSn_ := Aside0.mk (HSn.out.below hb)
  clear HW HSa HSb HSc HSm HZ HSn
  have HW := HW_
  have HSa := HSa_
  have HSb := HSb_
  have HSc := HSc_
  have HSm := HSm_
  have HZ := HZ_
  have HSn := HSn_
  clear HW_ HSa_ HSb_ HSc_ HSm_ HZ_ HSn_
  clear hb
  have HRx := Aside0.mk hr0
  have HRy := Aside0.mk hr1
  clear hr0 hr1
  have N18 : Aside0 (g18 < w_33.heap.size) := ⟨Nat.lt_of_lt_of_le (blk_lt HSn.out.blk) (Nat.le_refl _)⟩
  go_wp2_with (first | ((with_reducible refine gate_dst (N := 26) rfl ?_); refine box_event ?hg (N := 26) ?hd (cs := #[.slice none 0 0, .slice none 0 0]) (t := 31) ?hr ?_; (case hd => rfl); (case hg => rfl); (case hr => first | (go_simp; done) | (go_simp; rfl)); intro g26 hg w_34 hbox hb; have HG := Aside0.mk hg; have HBx := Aside0.mk hb; have BKx := Aside0.mk hbox; have hz0 : w_34.cell? ⟨g26, 0, none⟩ = some (.slice none 0 0) := (blk_cell BKx.out 0).trans rfl; have hz1 : w_34.cell? ⟨g26, 1, none⟩ = some (.slice none 0 0) := (blk_cell BKx.out 1).trans rfl; have hf0 := blk_frozen BKx.out 0; have hf1 := blk_frozen BKx.out 1; clear hg hbox hb) | ((with_reducible refine gate_dst (N := 148) rfl ?_); refine Aside0.out ?_))
  clear hz0 hz1 hf0 hf1
  obtain ⟨hS, hb⟩ := one_stored HBx.out BKx.out (Nat.le_of_eq HG.out.symm) HRx.out HRy.out
  obtain ⟨w_35, hw⟩ : ∃ w_35, w_35 = ((w_34.setCell ⟨g26, 0, none⟩ (.slice Aq q.f0.length cq)).setCell ⟨g26, 1, none⟩ (.slice Bq q.f1.length dq)) := ⟨_, rfl⟩
  rw [← hw] at hS hb ⊢
  clear hw
  have HW_ := Aside0.mk (HW.out.trans (hb.mono HW.out.size))
  have HSa_ := Aside0.mk (HSa.out.below hb)
  have HSb_ := Aside0.mk (HSb.out.below hb)
  have HSc_ := Aside0.mk (HSc.out.below hb)
  have HSm_ := Aside0.mk (HSm.out.below hb)
  have HZ_ := Aside0.mk (HZ.out.trans (hb.mono HZ.out.size))
  have HSn_ := Aside0.mk (HSn.out.below hb)
  clear HW HSa HSb HSc HSm HZ HSn
  have HW := HW_
  have HSa := HSa_
  have HSb := HSb_
  have HSc := HSc_
  have HSm := HSm_
  have HZ := HZ_
  have HSn := HSn_
  clear HW_ HSa_ HSb_ HSc_ HSm_ HZ_ HSn_
  have HR0q := Aside0.mk (Kd.R_below HRx.out hb)
  have HR1q := Aside0.mk (Kd.R_below HRy.out hb)
  have HSq := Aside0.mk hS
  clear hS hb HRx HRy HBx BKx
  have N26 : Aside0 (g26 ≠ g18) := ⟨fun e => by have h1 := HG.out; have h2 := N18.out; omega⟩
  clear HG N18
  refine ⟨?_⟩
  have hx0 := HSb.out.cell0
  have hx1 := HSb.out.cell1
  have hy0 := HSc.out.cell0
  have hy1 := HSc.out.cell1
  go_wp2_with fail
  refine (meetC HSb.out HSc.out HRb.out HRc.out HSh.out HMo.out).mono ?_
  rintro e w_36 ⟨Ao, co, Bo, do_, rfl, hr0, hr1, hb⟩
  clear hx0 hx1 hy0 hy1
  have HW_ := Aside0.mk (HW.out.trans (hb.mono HW.out.size))
  have HSa_ := Aside0.mk (HSa.out.below hb)
  have HSb_ := Aside0.mk (HSb.out.below hb)
  have HSc_ := Aside0.mk (HSc.out.below hb)
  have HSm_ := Aside0.mk (HSm.out.below hb)
  have HZ_ := Aside0.mk (HZ.out.trans (hb.mono HZ.out.size))
  have HSn_ := Aside0.mk (HSn.out.below hb)
  have HSq_ := Aside0.mk (HSq.out.below hb)
  have HR0q_ := Aside0.mk (Kd.R_below HR0q.out hb)
  have HR1q_ := Aside0.mk (Kd.R_below HR1q.out hb)
  clear HW HSa HSb HSc HSm HZ HSn HSq HR0q HR1q
  have HW := HW_
  have HSa := HSa_
  have HSb := HSb_
  have HSc := HSc_
  have HSm := HSm_
  have HZ := HZ_
  have HSn := HSn_
  have HSq := HSq_
  have HR0q := HR0q_
  have HR1q := HR1q_
  clear HW_ HSa_ HSb_ HSc_ HSm_ HZ_ HSn_ HSq_ HR0q_ HR1q_
  have HRx := Aside0.mk hr0
  have HRy := Aside0.mk hr1
  clear hr0 hr1 hb
  have hz0 := HSn.out.cell0
  have hz1 := HSn.out.cell1
  have hf0 := blk_frozen HSn.out.blk 0
  have hf1 := blk_frozen HSn.out.blk 1
  go_wp2_with ((with_reducible refine gate_dst (N := 154) rfl ?_); refine Aside0.out ?_)
  clear hz0 hz1 hf0 hf1
  obtain ⟨w_37, hw⟩ : ∃ w, w = ((w_36.setCell ⟨g18, 0, none⟩ (.slice Ao o.f0.length co)).setCell ⟨g18, 1, none⟩ (.slice Bo o.f1.length do_)) := ⟨_, rfl⟩
  have HZ_ : Aside0 (Below w_23.heap.size w_23 w_37) := ⟨by rw [hw]; exact below_set (below_set HZ.out HG18.out) HG18.out⟩
  have HSo : Aside0 (SumC w_37 g18 Ao co Bo do_ o) := ⟨by rw [hw]; exact stored_over HSn.out.blk HRx.out HRy.out⟩
  have HSq_ : Aside0 (SumC w_37 g26 Aq cq Bq dq q) := ⟨by rw [hw]; exact stored_by HSq.out HSn.out.blk N26.out HR0q.out HR1q.out⟩
  have HW_ : Aside0 (Below W.heap.size W w_37) := ⟨by rw [hw]; exact below_set (below_set HW.out (Nat.le_trans HW14.out HG18.out)) (Nat.le_trans HW14.out HG18.out)⟩
  rw [← hw]
  clear hw HZ HSq HW HR0q HR1q HSn HSm HSb HSc HSa HRx HRy
  have HZ := HZ_
  have HSq := HSq_
  have HW := HW_
  clear HZ_ HSq_ HW_
  have HSa := Aside0.mk (HS0.out.below HZ.out)
  clear HZ HS0
  refine ⟨?_⟩
  have hx0 := HSa.out.cell0
  have hx1 := HSa.out.cell1
  have hy0 := HSo.out.cell0
  have hy1 := HSo.out.cell1
  go_wp2_with fail
  refine (meetC HSa.out HSo.out HRa.out HRo.out HSh.out HMk.out).mono ?_
  rintro e w_38 ⟨Ak, ck, Bk, dk, rfl, hr0, hr1, hb⟩
  clear hx0 hx1 hy0 hy1
  have HW_ := Aside0.mk (HW.out.trans (hb.mono HW.out.size))
  have HSa_ := Aside0.mk (HSa.out.below hb)
  have HSo_ := Aside0.mk (HSo.out.below hb)
  have HSq_ := Aside0.mk (HSq.out.below hb)
  clear HW HSa HSo HSq
  have HW := HW_
  have HSa := HSa_
  have HSo := HSo_
  have HSq := HSq_
  clear HW_ HSa_ HSo_ HSq_
  clear hb
  have HRx := Aside0.mk hr0
  have HRy := Aside0.mk hr1
  clear hr0 hr1
  go_wp2_with (first | ((with_reducible refine gate_dst (N := 29) rfl ?_); refine box_event ?hg (N := 29) ?hd (cs := #[.slice none 0 0, .slice none 0 0]) (t := 31) ?hr ?_; (case hd => rfl); (case hg => rfl); (case hr => first | (go_simp; done) | (go_simp; rfl)); intro g29 hg w_39 hbox hb; have HG := Aside0.mk hg; have HBx := Aside0.mk hb; have BKx := Aside0.mk hbox; have hz0 : w_39.cell? ⟨g29, 0, none⟩ = some (.slice none 0 0) := (blk_cell BKx.out 0).trans rfl; have hz1 : w_39.cell? ⟨g29, 1, none⟩ = some (.slice none 0 0) := (blk_cell BKx.out 1).trans rfl; have hf0 := blk_frozen BKx.out 0; have hf1 := blk_frozen BKx.out 1; clear hg hbox hb) | ((with_reducible refine gate_dst (N := 159) rfl ?_); refine Aside0.out ?_))
  clear hz0 hz1 hf0 hf1
  obtain ⟨hS, hb⟩ := one_stored HBx.out BKx.out (Nat.le_of_eq HG.out.symm) HRx.out HRy.out
  obtain ⟨w_40, hw⟩ : ∃ w_40, w_40 = ((w_39.setCell ⟨g29, 0, none⟩ (.slice Ak k.f0.length ck)).setCell ⟨g29, 1, none⟩ (.slice Bk k.f1.length dk)) := ⟨_, rfl⟩
  rw [← hw] at hS hb ⊢
  clear hw
  have HW_ := Aside0.mk (HW.out.trans (hb.mono HW.out.size))
  have HSa_ := Aside0.mk (HSa.out.below hb)
  have HSo_ := Aside0.mk (HSo.out.below hb)
  have HSq_ := Aside0.mk (HSq.out.below hb)
  clear HW HSa HSo HSq
  have HW := HW_
  have HSa := HSa_
  have HSo := HSo_
  have HSq := HSq_
  clear HW_ HSa_ HSo_ HSq_
  have HSk := Aside0.mk hS
  clear hS hb HRx HRy HBx BKx
  clear HG
  refine ⟨?_⟩
  have hx0 := HSq.out.cell0
  have hx1 := HSq.out.cell1
  have hy0 := HSk.out.cell0
  have hy1 := HSk.out.cell1
  go_wp2_with fail
  refine (eqC HSq.out HSk.out HRq.out HSh.out Vqk.out).mono ?_
  rintro e w_41 ⟨rfl, hb⟩
  clear hx0 hx1 hy0 hy1
  have HW_ := Aside0.mk (HW.out.trans (hb.mono HW.out.size))
  have HSa_ := Aside0.mk (HSa.out.below hb)
  have HSo_ := Aside0.mk (HSo.out.below hb)
  have HSq_ := Aside0.mk (HSq.out.below hb)
  have HSk_ := Aside0.mk (HSk.out.below hb)
  clear HW HSa HSo HSq HSk
  have HW := HW_
  have HSa := HSa_
  have HSo := HSo_
  have HSq := HSq_
  have HSk := HSk_
  clear HW_ HSa_ HSo_ HSq_ HSk_
  clear hb
  clear Vca Vcb Vcm'
  cases vca <;> cases vcb
  all_goals
    go_simp
    repeat (first | go_skip | go_guarded | go_step | go_upon)
    go_ret
    exact ⟨rfl, HW.out⟩
end Go.Proofs.Ytgemcomcjojjbaa.PS
