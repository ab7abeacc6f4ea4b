/- What a proof of this seat needs, laid together by a program of the session's. No conditions. -/
import Derived.Test.YteonppgdmhakoaaDoorC1
import Derived.Test.YteonppgdmhakoaaDoorC5
import Derived.Test.YteonppgdmhakoaaDoorC4
import Derived.Test.YteonppgdmhakoaaDoorCards
import Derived.Test.YteonppgdmhakoaaDoorTie
import Derived.Deep.DeepHandedRow
import Derived.Lib.LaidTab
import Derived.Test.YteonppgdmhakoaaDoorC3
import Derived.Deep.Slices
import Derived.SizedLaws
import Derived.Carry
import Derived.WideShapes
import Derived.Test.YteonppgdmhakoaaDoorRows
import Derived.WalkKit
import Derived.ProofKit
import Derived.OpenShut
import Derived.ShutString
import Derived.ChangeOld
import Derived.Below
namespace Go.Proofs.YteonppgdmhakoaaDoor.PC
open Go.RowKit Go.Proofs.YteonppgdmhakoaaDoorW.PrintWords Go.Proofs.YteonppgdmhakoaaDoorW.PrintLast Go.Proofs.YteonppgdmhakoaaDoorW.PrintMore
attribute [local go_sem] max2_int min2_int max_two min_two max_three min_three max_four min_four
set_option linter.unusedVariables false
set_option linter.unusedSimpArgs false
mutual
def fuguelaw01_CodeCuts.j0 : Nat → Int → List Int → Bool → List Int → Bool → Option (Bool)
 | 0, _, _, _, _, _ => none
 | k + 1, x1, x2, x7, x8, x41 => if x41 = true then (some false) else (if (x8.length : Int) = 0 then (none) else (if (Int.tmod x1 (x8.length : Int)) < 0 then (fuguelaw01_CodeCuts.j1 k x2 x7 x8 (wrap64 ((Int.tmod x1 (x8.length : Int)) + (x8.length : Int)))) else (fuguelaw01_CodeCuts.j1 k x2 x7 x8 (Int.tmod x1 (x8.length : Int)))))
def fuguelaw01_CodeCuts.j1 : Nat → List Int → Bool → List Int → Int → Option (Bool)
 | 0, _, _, _, _ => none
 | k + 1, x2, x7, x8, x10 => if 0 ≤ x10 then (if x10 ≤ (x8.length : Int) then ((code_Decode.f (x8.take (x10 : Int).toNat)).bind fun bt293 => ((fugueref00_CopyBytes.f k x8).bind fun t300 => (fuguelaw01_CodeCuts.l0 k x2 x7 x8 x10 bt293.2.2.1 bt293.2.2.2 t300 0))) else (none)) else (none)
def fuguelaw01_CodeCuts.l0 : Nat → List Int → Bool → List Int → Int → Int → Int → List Int → Int → Option (Bool)
 | 0, _, _, _, _, _, _, _, _ => none
 | k + 1, x2, x7, x8, x10, x12, x13, x14, x15 => if x15 < (x2.length : Int) then (if 0 ≤ x15 then (if x14.length < 175921860444160 then (fuguelaw01_CodeCuts.l0 k x2 x7 x8 x10 x12 x13 (x14 ++ [rd x2 x15]) (wrap64 (x15 + 1))) else (none)) else (none)) else ((code_Decode.f x14).bind fun bt307 => (if bt307.2.2.1 = 22 then (if (x2.length : Int) = 0 then (if bt307.2.2.1 = 0 then (if x7 = true then (if x12 = 11 then (if x13 = x10 then (some (bt307.2.2.2 == 0)) else (some false)) else (some false)) else (some false)) else (if x7 = true then (if x12 = 11 then (if x13 = x10 then (some false) else (some false)) else (some false)) else (some false))) else (if x7 = true then (if x12 = 11 then (if x13 = x10 then (some (bt307.2.2.2 == (x8.length : Int))) else (some false)) else (some false)) else (some false))) else (if (x2.length : Int) = 0 then (if bt307.2.2.1 = 0 then (if x7 = true then (if x12 = 11 then (if x13 = x10 then (some (bt307.2.2.2 == 0)) else (some false)) else (some false)) else (some false)) else (if x7 = true then (if x12 = 11 then (if x13 = x10 then (some false) else (some false)) else (some false)) else (some false))) else (if x7 = true then (if x12 = 11 then (if x13 = x10 then (some false) else (some false)) else (some false)) else (some false)))))
end
def fuguelaw01_CodeCuts.f (k : Nat) (a0_0 : Int) (l0_1 : List (S46)) (a1 : Int) (l2 : List Int) : Option (Bool) := (fuguelaw01_works.f k).bind fun t284 => ((fugueref00_CopyProgram.f k a0_0 l0_1).bind fun bt285 => ((code_Encode.f bt285.1 bt285.2).bind fun bt289 => (if bt289.2 = 0 then (if t284 = true then (fuguelaw01_CodeCuts.j0 k a1 l2 t284 bt289.1 (decide ((bt289.1.length : Int) < 16))) else (fuguelaw01_CodeCuts.j0 k a1 l2 t284 bt289.1 true)) else (if t284 = true then (some ((bt289.1.length : Int) == 0)) else (some false)))))
set_option maxHeartbeats 8000000 in
set_option maxRecDepth 100000 in
theorem fuguelaw01_CodeCuts.calls (k : Nat) (a0_0 : Int) (A0_1 : Option Addr) (c0_1 : Nat) (l0_1 : List (S46)) (a1 : Int) (A2 : Option Addr) (c2 : Nat) (l2 : List Int) (r : Bool) (hr_ : r = true) (w : World) (hr0_1 : Kd.C k46 w A0_1 l0_1.length l0_1) (hc0_1 : l0_1.length ≤ c0_1) (hr2 : Kd.C (Kd.int .u8) w A2 l2.length l2) (hc2 : l2.length ≤ c2) (h : fuguelaw01_CodeCuts.f k a0_0 l0_1 a1 l2 = some r) (hT_ : Tab w) :
  Calls Tryd.prog 8 #[.agg #[.int .i64 a0_0, .slice A0_1 l0_1.length c0_1], .int .i64 a1, .slice A2 l2.length c2] w fun e w' => e = .returned (.bool r) ∧ Below w.heap.size w w' := by
 have hu24 := Tryd.underlying24
 have HR0_1 := Aside0.mk hr0_1
 have HC0_1 := Aside0.mk hc0_1
 clear hr0_1 hc0_1
 have HR2 := Aside0.mk hr2
 have HC2 := Aside0.mk hc2
 clear hr2 hc2
 have HB := Aside0.mk (Below.refl w.heap.size w)
 have HTab := Aside0.mk hT_
 have H : ((fuguelaw01_works.f k).bind fun t284 => ((fugueref00_CopyProgram.f k a0_0 l0_1).bind fun bt285 => ((code_Encode.f bt285.1 bt285.2).bind fun bt289 => (if bt289.2 = 0 then (if t284 = true then (fuguelaw01_CodeCuts.j0 k a1 l2 t284 bt289.1 (decide ((bt289.1.length : Int) < 16))) else (fuguelaw01_CodeCuts.j0 k a1 l2 t284 bt289.1 true)) else (if t284 = true then (some ((bt289.1.length : Int) == 0)) else (some false)))))) = some r := h
 clear h
 replace H := Option.bind_eq_some_iff.mp H
 obtain ⟨t284, A40, H⟩ := H
 replace H : ((fugueref00_CopyProgram.f k a0_0 l0_1).bind fun bt285 => ((code_Encode.f bt285.1 bt285.2).bind fun bt289 => (if bt289.2 = 0 then (if t284 = true then (fuguelaw01_CodeCuts.j0 k a1 l2 t284 bt289.1 (decide ((bt289.1.length : Int) < 16))) else (fuguelaw01_CodeCuts.j0 k a1 l2 t284 bt289.1 true)) else (if t284 = true then (some ((bt289.1.length : Int) == 0)) else (some false))))) = some r := H
 have A4 := Aside0.mk A40
 clear A40
 replace H := Option.bind_eq_some_iff.mp H
 obtain ⟨⟨t285, t286⟩, A50, H⟩ := H
 replace H : ((code_Encode.f t285 t286).bind fun bt289 => (if bt289.2 = 0 then (if t284 = true then (fuguelaw01_CodeCuts.j0 k a1 l2 t284 bt289.1 (decide ((bt289.1.length : Int) < 16))) else (fuguelaw01_CodeCuts.j0 k a1 l2 t284 bt289.1 true)) else (if t284 = true then (some ((bt289.1.length : Int) == 0)) else (some false)))) = some r := H
 have A5 := Aside0.mk A50
 clear A50
 replace H := Option.bind_eq_some_iff.mp H
 obtain ⟨⟨t289, t292⟩, A60, H⟩ := H
 replace H : (if t292 = 0 then (if t284 = true then (fuguelaw01_CodeCuts.j0 k a1 l2 t284 t289 (decide ((t289.length : Int) < 16))) else (fuguelaw01_CodeCuts.j0 k a1 l2 t284 t289 true)) else (if t284 = true then (some ((t289.length : Int) == 0)) else (some false))) = some r := H
 have A6 := Aside0.mk A60
 clear A60
 by_cases c7 : t292 = 0
 ·rw [if_pos c7] at H
  have c7b0 : (t292 == 0) = true := beq_iff_eq.mpr c7
  have c7b1 : (t292 != 0) = false := bne_eq_false_iff_eq.mpr c7
  clear c7
  have HC8 := Aside0.mk H
  clear H
  go_enter Tryd.func8, Tryd.ntmps8
  go_upto_region 5 with (first | ((with_reducible refine gate_dst (N := 3) rfl ?_); (try (refine gate_guard (by rfl) ?_; dsimp only)); refine box_event ?hg (N := 3) ?hd (cs := #[.int .i64 a0_0, .slice A0_1 l0_1.length c0_1]) (t := 24) ?hr ?_; (case hd => rfl); (case hg => rfl); (case hr => first | (go_simp; done) | (go_simp; rfl)); intro gb283 hg w9 hbox hb; have n0_ := Aside0.mk (below_step (by repeat (first | (with_reducible first | exact HB.out | apply below_alloc | apply pw_below_drewN | apply below_drew1) | exact HB.out)) hb); have n1_ := Aside0.mk (hbox); have n2_ := Aside0.mk ((by rw [hg]; exact (below_size (by repeat (first | (with_reducible first | exact HB.out | apply below_alloc | apply pw_below_drewN | apply below_drew1) | exact HB.out))) : w.heap.size ≤ gb283)); have n3_ := Aside0.mk ((by rw [hg]; exact (below_size (by repeat (first | (with_reducible first | exact HB.out | apply below_alloc | apply pw_below_drewN | apply below_drew1) | exact HB.out))) : w.heap.size ≤ gb283)); clear HB; have HB := n0_; have BK283 := n1_; have GW283 := n2_; have GE283 := n3_; clear n0_ n1_ n2_ n3_; clear hb hbox hg) | ((with_reducible refine gate_callee (f := 10) rfl ?_); refine goesL_ (some 20) rfl rfl Tryd.func10 (by kernel_rfl) rfl #[] rfl (by (try simp only [List.map_toArray, List.map_cons, List.map_nil]); first | done | rfl | (simp only [List.length_drop, List.length_take]; rfl)) ?_; (with_reducible refine (fuguelaw01_works.calls k  t284 _ A4.out ?tab).mono ?_); (case tab => exact Tab.below HTab.out (by repeat (first | (with_reducible first | exact HB.out | apply below_alloc | apply pw_below_drewN | apply below_drew1 | refine below_set ?_ GE283.out) | exact HB.out))); rintro e w10 ⟨rfl, hb⟩; refine ⟨_, rfl, ?_⟩; have n0_ := Aside0.mk (blk_below (g := gb283) (o := .cells #[.int .i64 a0_0, .slice A0_1 l0_1.length c0_1] 24 (0, 0)) (by (with_reducible repeat (first | refine blk_drewN ?_ _ | refine blk_drew ?_ | refine blk_alloc ?_ _)); exact BK283.out) hb); have n1_ := Aside0.mk (below_step (by repeat (first | (with_reducible first | exact HB.out | apply below_alloc | apply pw_below_drewN | apply below_drew1 | refine below_set ?_ GE283.out) | exact HB.out)) hb); clear BK283; clear HB; have BK283 := n0_; have HB := n1_; clear n0_ n1_; (try clear hb); (try clear hb2); (try clear hk); (try clear hi); have hcz11_0 : w10.cell? ⟨gb283, 0, none⟩ = some (.int .i64 a0_0) := (blk_cell BK283.out 0).trans rfl; have hcz11_1 : w10.cell? ⟨gb283, 1, none⟩ = some (.slice A0_1 l0_1.length c0_1) := (blk_cell BK283.out 1).trans rfl; have hfz11_0 := blk_frozen BK283.out 0; have hfz11_1 := blk_frozen BK283.out 1) | ((with_reducible refine gate_callee (f := 19) rfl ?_); refine goesL_ (some 23) rfl rfl Tryd.func19 (by kernel_rfl) rfl #[.agg #[.int .i64 a0_0, .slice A0_1 l0_1.length c0_1]] rfl (by (try simp only [List.map_toArray, List.map_cons, List.map_nil]); first | done | rfl | (simp only [List.length_drop, List.length_take]; rfl)) ?_; (with_reducible refine (fugueref00_CopyProgram.calls k a0_0 _ _ l0_1 t285 t286 _ ?side1 ?side2 A5.out).mono ?_); (case side1 => repeat (first | exact (Kd.C_below HR0_1.out HB.out) | (with_reducible refine Kd.C_alloc ?_ _) | (with_reducible refine Kd.C_drewN ?_ _) | (with_reducible refine Kd.C_drew ?_))); (case side2 => exact HC0_1.out); rintro e w12 ⟨v287, rfl, ho0, hb⟩; refine ⟨_, rfl, ?_⟩; have n0_ := Aside0.mk (Kd.R_lower ho0 (below_size (by repeat (first | (with_reducible first | exact HB.out | apply below_alloc | apply pw_below_drewN | apply below_drew1 | refine below_set ?_ GE283.out) | exact HB.out)))); have n1_ := Aside0.mk (blk_below (g := gb283) (o := .cells #[.int .i64 a0_0, .slice A0_1 l0_1.length c0_1] 24 (0, 0)) (by (with_reducible repeat (first | refine blk_drewN ?_ _ | refine blk_drew ?_ | refine blk_alloc ?_ _)); exact BK283.out) hb); have n2_ := Aside0.mk (below_step (by repeat (first | (with_reducible first | exact HB.out | apply below_alloc | apply pw_below_drewN | apply below_drew1 | refine below_set ?_ GE283.out) | exact HB.out)) hb); clear BK283; clear HB; have HO288 := n0_; have BK283 := n1_; have HB := n2_; clear n0_ n1_ n2_; (try clear hb); (try clear hb2); (try clear hk); (try clear hi); (try clear ho0); obtain ⟨Ao13, co13, eo13⟩ := Kd.R_slice HO288.out; subst eo13) | ((with_reducible refine gate_callee (f := 20) rfl ?_); refine goesL_ (some 24) rfl rfl Tryd.func20 (by kernel_rfl) rfl #[.agg #[.int .i64 t285, .slice Ao13 t286.length co13]] rfl (by (try simp only [List.map_toArray, List.map_cons, List.map_nil]); first | done | rfl | (simp only [List.length_drop, List.length_take]; rfl)) ?_; (with_reducible refine (code_Encode.calls t285 _ _ t286 t289 t292 _ ?side1 ?side2 A6.out ?tab).mono ?_); (case tab => exact Tab.below HTab.out (by repeat (first | (with_reducible first | exact HB.out | apply below_alloc | apply pw_below_drewN | apply below_drew1 | refine below_set ?_ GE283.out) | exact HB.out))); (case side1 => repeat (first | exact (Kd.R_reads' HO288.out).2.2 | (with_reducible refine Kd.C_alloc ?_ _) | (with_reducible refine Kd.C_drewN ?_ _) | (with_reducible refine Kd.C_drew ?_))); (case side2 => exact (Kd.R_reads' HO288.out).2.1); rintro e w14 ⟨v290, rfl, ho0, hb⟩; refine ⟨_, rfl, ?_⟩; have n0_ := Aside0.mk (Kd.R_below (by (with_reducible repeat (first | apply Kd.R_alloc | apply Kd.R_drewN | apply Kd.R_drew)); exact HO288.out) hb); have n1_ := Aside0.mk (Kd.R_lower ho0 (below_size (by repeat (first | (with_reducible first | exact HB.out | apply below_alloc | apply pw_below_drewN | apply below_drew1 | refine below_set ?_ GE283.out) | exact HB.out)))); have n2_ := Aside0.mk (blk_below (g := gb283) (o := .cells #[.int .i64 a0_0, .slice A0_1 l0_1.length c0_1] 24 (0, 0)) (by (with_reducible repeat (first | refine blk_drewN ?_ _ | refine blk_drew ?_ | refine blk_alloc ?_ _)); exact BK283.out) hb); have n3_ := Aside0.mk (below_step (by repeat (first | (with_reducible first | exact HB.out | apply below_alloc | apply pw_below_drewN | apply below_drew1 | refine below_set ?_ GE283.out) | exact HB.out)) hb); clear HO288; clear BK283; clear HB; have HO288 := n0_; have HO291 := n1_; have BK283 := n2_; have HB := n3_; clear n0_ n1_ n2_ n3_; (try clear hb); (try clear hb2); (try clear hk); (try clear hi); (try clear ho0)))
  (try simp only [Act.put, pn])
  go_cut [41] (fun v41 wc => ∃ (kq : Nat) (x41_7 : Bool), v41 = .bool x41_7 ∧ Aside0 (fuguelaw01_CodeCuts.j0 kq a1 l2 t284 t289 x41_7 = some r) ∧ Aside0 (kq ≤ k) ∧ Aside0 (Kd.R (Kd.int .u8) 5 wc w.heap.size (fun _ => True) v290 t289) ∧ Aside0 (wc.heap[gb283]? = some (.cells #[.int .i64 a0_0, (.slice A0_1 l0_1.length c0_1)] 24 (0, 0))) ∧ Aside0 (Below w.heap.size w wc))
  case first =>
   have H := HC8.out
   clear HC8
   by_cases c15 : t284 = true
   ·subst c15
    have H1 : (fuguelaw01_CodeCuts.j0 k a1 l2 true t289 (decide ((t289.length : Int) < 16))) = some r := by rw [if_pos rfl] at H; exact H
    clear H
    have H := H1
    clear H1
    have H' := Aside0.mk H
    clear H
    obtain ⟨Ao16, co16, eo16⟩ := Kd.R_slice HO291.out
    subst eo16
    go_wp2
    go_meet
    case rel => exact ⟨_, (decide ((t289.length : Int) < 16)), (by first | rfl | (simp; done) | (simp [*]; done)), H', ⟨by first | omega | exact Nat.le_refl _⟩, ⟨by (with_reducible repeat (first | apply Kd.R_alloc | apply Kd.R_drewN | apply Kd.R_drew)); exact HO291.out⟩, ⟨by (with_reducible repeat (first | refine blk_drewN ?_ _ | refine blk_drew ?_ | refine blk_alloc ?_ _)); exact BK283.out⟩, ⟨by repeat (first | (with_reducible first | exact HB.out | apply below_alloc | apply pw_below_drewN | apply below_drew1 | refine below_set ?_ GE283.out) | exact HB.out)⟩⟩
   ·replace c15 := Bool.eq_false_iff.mpr c15
    subst c15
    have H1 : (fuguelaw01_CodeCuts.j0 k a1 l2 false t289 true) = some r := by rw [if_neg (show ¬ (false = true) by decide)] at H; exact H
    clear H
    have H := H1
    clear H1
    have H' := Aside0.mk H
    clear H
    go_wp2
    go_meet
    case rel => exact ⟨_, (true), (by first | rfl | (simp; done) | (simp [*]; done)), H', ⟨by first | omega | exact Nat.le_refl _⟩, ⟨by (with_reducible repeat (first | apply Kd.R_alloc | apply Kd.R_drewN | apply Kd.R_drew)); exact HO291.out⟩, ⟨by (with_reducible repeat (first | refine blk_drewN ?_ _ | refine blk_drew ?_ | refine blk_alloc ?_ _)); exact BK283.out⟩, ⟨by repeat (first | (with_reducible first | exact HB.out | apply below_alloc | apply pw_below_drewN | apply below_drew1 | refine below_set ?_ GE283.out) | exact HB.out)⟩⟩
  case rest =>
   clear HC8
   try clear c1
   try clear c2
   try clear p2
   try clear c7
   try clear c7b0
   try clear c7b1
   try clear c8
   try clear c10
   try clear c15
   try clear hcz11_0
   try clear hcz11_1
   try clear hfz11_0
   try clear hfz11_1
   obtain ⟨kq, x41_7, rfl, HA, HJ7, HO_8, BK283, HB⟩ := hcut
   cases kq with
   | zero => exact absurd HA.out (by simp [fuguelaw01_CodeCuts.j0])
   | succ kj7 =>
    have H := HA.out
    clear HA
    simp only [fuguelaw01_CodeCuts.j0] at H
    by_cases c17 : x41_7 = true
    ·subst c17
     have H1 : (some false) = some r := by rw [if_pos rfl] at H; exact H
     clear H
     have H := H1
     clear H1
     obtain rfl := Option.some.inj H
     go_wp2
     go_ret
     exact ⟨by first | rfl | (simp [errW_none, errW_some] <;> rfl) | (simp [*, errW_none, errW_some] <;> rfl), by repeat (first | (with_reducible first | exact HB.out | apply below_alloc | apply pw_below_drewN | apply below_drew1 | refine below_set ?_ GE283.out) | exact HB.out)⟩
    ·replace c17 := Bool.eq_false_iff.mpr c17
     subst c17
     have H1 : (if (t289.length : Int) = 0 then (none) else (if (Int.tmod a1 (t289.length : Int)) < 0 then (fuguelaw01_CodeCuts.j1 kj7 l2 t284 t289 (wrap64 ((Int.tmod a1 (t289.length : Int)) + (t289.length : Int)))) else (fuguelaw01_CodeCuts.j1 kj7 l2 t284 t289 (Int.tmod a1 (t289.length : Int))))) = some r := by rw [if_neg (show ¬ (false = true) by decide)] at H; exact H
     clear H
     have H := H1
     clear H1
     by_cases c18 : (t289.length : Int) = 0
     ·rw [if_pos c18] at H
      exact absurd H (by simp)
     ·rw [if_neg c18] at H
      have c18b0 : ((t289.length : Int) == 0) = false := beq_eq_false_iff_ne.mpr c18
      have c18b1 : ((t289.length : Int) != 0) = true := bne_iff_ne.mpr c18
      have c18b2 : ¬ (t289 = []) := fun h_ => c18 (by rw [h_]; rfl)
      have HC19 := Aside0.mk H
      clear H
      obtain ⟨Ao20, co20, eo20⟩ := Kd.R_slice HO_8.out
      subst eo20
      go_upto_if 47 with (fail)
      go_cut [10] (fun v10 wc => ∃ (kq : Nat) (x10_18 : Int), v10 = .int .i64 x10_18 ∧ Aside0 (fuguelaw01_CodeCuts.j1 kq l2 t284 t289 x10_18 = some r) ∧ Aside0 (kq ≤ kj7) ∧ Aside0 (Kd.R (Kd.int .u8) 5 wc w.heap.size (fun _ => True) (.slice Ao20 t289.length co20) t289) ∧ Aside0 (wc.heap[gb283]? = some (.cells #[.int .i64 a0_0, (.slice A0_1 l0_1.length c0_1)] 24 (0, 0))) ∧ Aside0 (Below w.heap.size w wc))
      case first =>
       have H := HC19.out
       clear HC19
       by_cases c21 : (Int.tmod a1 (t289.length : Int)) < 0
       ·rw [if_pos c21] at H
        have c21b0 : decide ((Int.tmod a1 (t289.length : Int)) < 0) = true := decide_eq_true c21
        clear c21
        (first | rw [c21b0] | (simp only [i64_w, i32_w]; rw [c21b0]) | skip)
        have H' := Aside0.mk H
        clear H
        go_wp2
        go_meet
        case rel => exact ⟨_, (wrap64 ((Int.tmod a1 (t289.length : Int)) + (t289.length : Int))), (by first | rfl | (simp; done) | (simp [*]; done)), H', ⟨by have := HJ7.out; first | omega | exact Nat.le_refl _⟩, ⟨by (with_reducible repeat (first | apply Kd.R_alloc | apply Kd.R_drewN | apply Kd.R_drew)); exact HO_8.out⟩, ⟨by (with_reducible repeat (first | refine blk_drewN ?_ _ | refine blk_drew ?_ | refine blk_alloc ?_ _)); exact BK283.out⟩, ⟨by repeat (first | (with_reducible first | exact HB.out | apply below_alloc | apply pw_below_drewN | apply below_drew1 | refine below_set ?_ GE283.out) | exact HB.out)⟩⟩
       ·rw [if_neg c21] at H
        have c21b0 : decide ((Int.tmod a1 (t289.length : Int)) < 0) = false := decide_eq_false c21
        clear c21
        (first | rw [c21b0] | (simp only [i64_w, i32_w]; rw [c21b0]) | skip)
        have H' := Aside0.mk H
        clear H
        go_wp2
        go_meet
        case rel => exact ⟨_, (Int.tmod a1 (t289.length : Int)), (by first | rfl | (simp; done) | (simp [*]; done)), H', ⟨by have := HJ7.out; first | omega | exact Nat.le_refl _⟩, ⟨by (with_reducible repeat (first | apply Kd.R_alloc | apply Kd.R_drewN | apply Kd.R_drew)); exact HO_8.out⟩, ⟨by (with_reducible repeat (first | refine blk_drewN ?_ _ | refine blk_drew ?_ | refine blk_alloc ?_ _)); exact BK283.out⟩, ⟨by repeat (first | (with_reducible first | exact HB.out | apply below_alloc | apply pw_below_drewN | apply below_drew1 | refine below_set ?_ GE283.out) | exact HB.out)⟩⟩
      case rest =>
       clear HC19
       try clear c1
       try clear c2
       try clear p2
       try clear p6
       try clear c7
       try clear c7b0
       try clear c7b1
       try clear c8
       try clear c10
       try clear c15
       try clear c17
       try clear c18
       try clear c18b0
       try clear c18b1
       try clear c18b2
       try clear c19
       try clear c20
       try clear c21
       try clear c21b0
       try clear hcz11_0
       try clear hcz11_1
       try clear hfz11_0
       try clear hfz11_1
       try clear p2
       obtain ⟨kq, x10_18, rfl, HA, HJ18, HO_8, BK283, HB⟩ := hcut
       cases kq with
       | zero => exact absurd HA.out (by simp [fuguelaw01_CodeCuts.j1])
       | succ kj18 =>
        have H := HA.out
        clear HA
        simp only [fuguelaw01_CodeCuts.j1] at H
        have cA_ : 0 ≤ x10_18 := by by_cases h_ : 0 ≤ x10_18; (exact h_); (rw [if_neg h_] at H; cases H)
        rw [if_pos cA_] at H
        have cB_ : x10_18 ≤ (t289.length : Int) := by by_cases h_ : x10_18 ≤ (t289.length : Int); (exact h_); (rw [if_neg h_] at H; cases H)
        rw [if_pos cB_] at H
        replace H := Option.bind_eq_some_iff.mp H
        obtain ⟨⟨t293, t294, t297, t298⟩, A220, H⟩ := H
        replace H : ((fugueref00_CopyBytes.f kj18 t289).bind fun t300 => (fuguelaw01_CodeCuts.l0 kj18 l2 t284 t289 x10_18 t297 t298 t300 0)) = some r := H
        have A22 := Aside0.mk A220
        clear A220
        replace H := Option.bind_eq_some_iff.mp H
        obtain ⟨t300, A230, H⟩ := H
        replace H : (fuguelaw01_CodeCuts.l0 kj18 l2 t284 t289 x10_18 t297 t298 t300 0) = some r := H
        have A23 := Aside0.mk A230
        clear A230
        have H' := Aside0.mk H
        clear H
        obtain ⟨i026, hi026, _, hsz26, _⟩ := info_parts info5
        obtain ⟨hcut26, hA26, hC26⟩ := print_take_of (P := Tryd.prog) (Value.int .u8) 0 33 5 .i64 Tryd.underlying33 hi026 hsz26 Ao20 co20 t289 x10_18 cA_ cB_ (Kd.R_reads' HO_8.out).2.1
        have HR268 := Aside0.mk (Kd.C_of_reads (h1 := fun _ => rfl) (hA26 _ (Kd.reads_of_C (Kd.R_reads' HO_8.out).2.2)))
        have HC268 := Aside0.mk hC26
        have HL268 : Aside0 ((t289.take (x10_18 : Int).toNat).length = (x10_18 : Int).toNat) := ⟨by rw [List.length_take]; omega⟩
        clear hA26 hC26 hi026 hsz26 cA_ cB_
        go_wp2_with (first | ((with_reducible refine gate_callee (f := 24) rfl ?_); refine goesL_ (some 56) rfl rfl Tryd.func24 (by kernel_rfl) rfl #[.slice Ao20 (t289.take (x10_18 : Int).toNat).length co20] rfl (by (try simp only [List.map_toArray, List.map_cons, List.map_nil]); first | done | (rw [HL268.out] <;> rfl) | rfl | (simp only [List.length_drop, List.length_take]; rfl)) ?_; (with_reducible refine (code_Decode.calls _ _ (t289.take (x10_18 : Int).toNat) t293 t294 t297 t298 _ ?side1 ?side2 A22.out ?tab).mono ?_); (case tab => exact Tab.below HTab.out (by repeat (first | (with_reducible first | exact HB.out | apply below_alloc | apply pw_below_drewN | apply below_drew1 | refine below_set ?_ GE283.out) | exact HB.out))); (case side1 => repeat (first | exact HR268.out | (with_reducible refine Kd.C_alloc ?_ _) | (with_reducible refine Kd.C_drewN ?_ _) | (with_reducible refine Kd.C_drew ?_))); (case side2 => exact HC268.out); rintro e w24 ⟨v295, rfl, ho0, hb⟩; refine ⟨_, rfl, ?_⟩; have n0_ := Aside0.mk (Kd.R_below (by (with_reducible repeat (first | apply Kd.R_alloc | apply Kd.R_drewN | apply Kd.R_drew)); exact HO_8.out) hb); have n1_ := Aside0.mk (Kd.R_lower ho0 (below_size (by repeat (first | (with_reducible first | exact HB.out | apply below_alloc | apply pw_below_drewN | apply below_drew1 | refine below_set ?_ GE283.out) | exact HB.out)))); have n2_ := Aside0.mk (blk_below (g := gb283) (o := .cells #[.int .i64 a0_0, .slice A0_1 l0_1.length c0_1] 24 (0, 0)) (by (with_reducible repeat (first | refine blk_drewN ?_ _ | refine blk_drew ?_ | refine blk_alloc ?_ _)); exact BK283.out) hb); have n3_ := Aside0.mk (below_step (by repeat (first | (with_reducible first | exact HB.out | apply below_alloc | apply pw_below_drewN | apply below_drew1 | refine below_set ?_ GE283.out) | exact HB.out)) hb); clear HO_8; clear BK283; clear HB; have HO_8 := n0_; have HO296 := n1_; have BK283 := n2_; have HB := n3_; clear n0_ n1_ n2_ n3_; (try clear hb); (try clear hb2); (try clear hk); (try clear hi); (try clear ho0)) | ((with_reducible refine gate_dst (N := 11) rfl ?_); (try (refine gate_guard (by rfl) ?_; dsimp only)); refine box_event ?hg (N := 11) ?hd (cs := #[.int .i64 0, .slice none 0 0]) (t := 24) ?hr ?_; (case hd => rfl); (case hg => rfl); (case hr => first | (go_simp; done) | (go_simp; rfl)); intro gb299 hg w25 hbox hb; have n0_ := Aside0.mk (Kd.R_below (by (with_reducible repeat (first | apply Kd.R_alloc | apply Kd.R_drewN | apply Kd.R_drew)); exact HO_8.out) hb); have n1_ := Aside0.mk (Kd.R_below (by (with_reducible repeat (first | apply Kd.R_alloc | apply Kd.R_drewN | apply Kd.R_drew)); exact HO296.out) hb); have n2_ := Aside0.mk (blk_below (g := gb283) (o := .cells #[.int .i64 a0_0, .slice A0_1 l0_1.length c0_1] 24 (0, 0)) (by (with_reducible repeat (first | refine blk_drewN ?_ _ | refine blk_drew ?_ | refine blk_alloc ?_ _)); exact BK283.out) hb); have n3_ := Aside0.mk (below_step (by repeat (first | (with_reducible first | exact HB.out | apply below_alloc | apply pw_below_drewN | apply below_drew1 | refine below_set ?_ GE283.out) | exact HB.out)) hb); have n4_ := Aside0.mk (hbox); have n5_ := Aside0.mk ((by rw [hg]; exact (below_size (by repeat (first | (with_reducible first | exact HB.out | apply below_alloc | apply pw_below_drewN | apply below_drew1 | refine below_set ?_ GE283.out) | exact HB.out))) : w.heap.size ≤ gb299)); have n6_ := Aside0.mk ((by rw [hg]; exact (below_size (by repeat (first | (with_reducible first | exact HB.out | apply below_alloc | apply pw_below_drewN | apply below_drew1 | refine below_set ?_ GE283.out) | exact HB.out))) : w.heap.size ≤ gb299)); have n7_ := Aside0.mk ((by rw [hg]; exact Nat.ne_of_lt (blk_lt (g := gb283) (o := .cells #[.int .i64 a0_0, .slice A0_1 l0_1.length c0_1] 24 (0, 0)) (by (with_reducible repeat (first | refine blk_drewN ?_ _ | refine blk_drew ?_ | refine blk_alloc ?_ _)); exact BK283.out)) : gb283 ≠ gb299)); have n8_ := Aside0.mk ((by rw [hg]; exact Nat.ne_of_gt (blk_lt (g := gb283) (o := .cells #[.int .i64 a0_0, .slice A0_1 l0_1.length c0_1] 24 (0, 0)) (by (with_reducible repeat (first | refine blk_drewN ?_ _ | refine blk_drew ?_ | refine blk_alloc ?_ _)); exact BK283.out)) : gb299 ≠ gb283)); clear HO_8; clear HO296; clear BK283; clear HB; have HO_8 := n0_; have HO296 := n1_; have BK283 := n2_; have HB := n3_; have BK299 := n4_; have GW299 := n5_; have GE299 := n6_; have NB283_299 := n7_; have NB299_283 := n8_; clear n0_ n1_ n2_ n3_ n4_ n5_ n6_ n7_ n8_; clear hb hbox hg; have hnb26 := NB299_283.out; have hnc26 := NB283_299.out; have hcz27_0 : w25.cell? ⟨gb299, 0, none⟩ = some (.int .i64 0) := (blk_cell BK299.out 0).trans rfl; have hcz27_1 : w25.cell? ⟨gb299, 1, none⟩ = some (.slice none 0 0) := (blk_cell BK299.out 1).trans rfl; have hfz27_0 := blk_frozen BK299.out 0; have hfz27_1 := blk_frozen BK299.out 1; obtain ⟨Ao28, co28, eo28⟩ := Kd.R_slice HO296.out; subst eo28) | ((with_reducible refine gate_callee (f := 27) rfl ?_); refine goesL_ (some 61) rfl rfl Tryd.func27 (by kernel_rfl) rfl #[.slice Ao20 t289.length co20] rfl (by (try simp only [List.map_toArray, List.map_cons, List.map_nil]); first | done | rfl | (simp only [List.length_drop, List.length_take]; rfl)) ?_; (with_reducible refine (fugueref00_CopyBytes.calls kj18 _ _ t289 t300 _ ?side1 ?side2 A23.out).mono ?_); (case side1 => refine (Kd.R_reads' (e := 5) (base := w.heap.size) (ok := fun k_ => True) (n := t289.length) (c := co20) ?_).2.2; exact (by (with_reducible repeat (first | apply Kd.R_alloc | apply Kd.R_drewN | apply Kd.R_drew)); exact (Kd.R_mono (Kd.R_far (p := ⟨gb299, 1, none⟩) (Kd.R_far (p := ⟨gb299, 0, none⟩) (Kd.R_types HO_8.out BK299.out (by decide)) (fun _ hk => hk.2) (.int .i64 t293)) (fun _ hk => hk.2) (.slice Ao28 t294.length co28)) (fun _ h_ => h_.1)))); (case side2 => exact (Kd.R_reads' HO_8.out).2.1); rintro e w29 ⟨v301, rfl, ho0, hb⟩; refine ⟨_, rfl, ?_⟩; have n0_ := Aside0.mk (Kd.R_elder' (by (with_reducible repeat (first | apply Kd.R_alloc | apply Kd.R_drewN | apply Kd.R_drew)); exact (Kd.R_mono (Kd.R_far (p := ⟨gb299, 1, none⟩) (Kd.R_far (p := ⟨gb299, 0, none⟩) (Kd.R_types HO_8.out BK299.out (by decide)) (fun _ hk => hk.2) (.int .i64 t293)) (fun _ hk => hk.2) (.slice Ao28 t294.length co28)) (fun _ h_ => h_.1))) (Kd.R_base ho0) hb); have n1_ := Aside0.mk (Kd.R_below (by (with_reducible repeat (first | apply Kd.R_alloc | apply Kd.R_drewN | apply Kd.R_drew)); exact (Kd.R_mono (Kd.R_far (p := ⟨gb299, 1, none⟩) (Kd.R_far (p := ⟨gb299, 0, none⟩) (Kd.R_types HO296.out BK299.out (by decide)) (fun _ hk => hk.2) (.int .i64 t293)) (fun _ hk => hk.2) (.slice Ao28 t294.length co28)) (fun _ h_ => h_.1))) hb); have n2_ := Aside0.mk (Kd.R_lower (Kd.R_new' ho0 (Kd.R_lt (by (with_reducible repeat (first | apply Kd.R_alloc | apply Kd.R_drewN | apply Kd.R_drew)); exact (Kd.R_mono (Kd.R_far (p := ⟨gb299, 1, none⟩) (Kd.R_far (p := ⟨gb299, 0, none⟩) (Kd.R_types HO_8.out BK299.out (by decide)) (fun _ hk => hk.2) (.int .i64 t293)) (fun _ hk => hk.2) (.slice Ao28 t294.length co28)) (fun _ h_ => h_.1))))) (below_size (by repeat (first | (with_reducible first | exact HB.out | apply below_alloc | apply pw_below_drewN | apply below_drew1 | refine below_set ?_ GE283.out | refine below_set ?_ GE299.out) | exact HB.out)))); have n3_ := Aside0.mk (blk_below (g := gb283) (o := .cells #[.int .i64 a0_0, .slice A0_1 l0_1.length c0_1] 24 (0, 0)) (by (with_reducible repeat (first | refine blk_drewN ?_ _ | refine blk_drew ?_ | refine blk_alloc ?_ _)); refine blk_far ?_ NB283_299.out _; (with_reducible repeat (first | refine blk_drewN ?_ _ | refine blk_drew ?_ | refine blk_alloc ?_ _)); refine blk_far ?_ NB283_299.out _; (with_reducible repeat (first | refine blk_drewN ?_ _ | refine blk_drew ?_ | refine blk_alloc ?_ _)); exact BK283.out) hb); have n4_ := Aside0.mk (blk_below (g := gb299) (o := .cells #[.int .i64 t293, .slice Ao28 t294.length co28] 24 (0, 0)) (by (with_reducible repeat (first | refine blk_drewN ?_ _ | refine blk_drew ?_ | refine blk_alloc ?_ _)); refine blk_put (cs := #[.int .i64 t293, .slice none 0 0]) ?_ 1 _ rfl; (with_reducible repeat (first | refine blk_drewN ?_ _ | refine blk_drew ?_ | refine blk_alloc ?_ _)); refine blk_put (cs := #[.int .i64 0, .slice none 0 0]) ?_ 0 _ rfl; (with_reducible repeat (first | refine blk_drewN ?_ _ | refine blk_drew ?_ | refine blk_alloc ?_ _)); exact BK299.out) hb); have n5_ := Aside0.mk (below_step (by repeat (first | (with_reducible first | exact HB.out | apply below_alloc | apply pw_below_drewN | apply below_drew1 | refine below_set ?_ GE283.out | refine below_set ?_ GE299.out) | exact HB.out)) hb); clear HO_8; clear HO296; clear BK283; clear BK299; clear HB; have HO_8 := n0_; have HO296 := n1_; have HO302 := n2_; have BK283 := n3_; have BK299 := n4_; have HB := n5_; clear n0_ n1_ n2_ n3_ n4_ n5_; (try clear hb); (try clear hb2); (try clear hk); (try clear hi); (try clear ho0)))
        go_loopg [14, 15] kj18 (fun kq v14 v15 w' => ∃ (x14_3 : List Int) (x15_3 : Int), v15 = .int .i64 x15_3 ∧ Aside0 (fuguelaw01_CodeCuts.l0 kq l2 t284 t289 x10_18 t297 t298 x14_3 x15_3 = some r) ∧ Aside0 (kq ≤ kj18) ∧ Aside0 (Kd.R (Kd.int .u8) 5 w' w.heap.size (fun k_ => some k_ ≠ (v14 : Value).ownBlock) (.slice Ao20 t289.length co20) t289) ∧ Aside0 (Kd.R (Kd.int .u8) 5 w' w.heap.size (fun k_ => some k_ ≠ ((.slice Ao20 t289.length co20) : Value).ownBlock) v14 x14_3) ∧ Aside0 (Kd.R k46 46 w' w.heap.size (fun _ => True) (.slice Ao28 t294.length co28) t294) ∧ Aside0 (w'.heap[gb283]? = some (.cells #[.int .i64 a0_0, (.slice A0_1 l0_1.length c0_1)] 24 (0, 0))) ∧ Aside0 (w'.heap[gb299]? = some (.cells #[.int .i64 t293, (.slice Ao28 t294.length co28)] 24 (0, 0))) ∧ Aside0 (Below w.heap.size w w'))
        case atStart => exact ⟨(t300), (0), (by first | rfl | (simp; done) | (simp [*]; done)), H', ⟨Nat.le_refl _⟩, ⟨by (with_reducible repeat (first | apply Kd.R_alloc | apply Kd.R_drewN | apply Kd.R_drew)); exact Kd.R_mono HO_8.out (fun _ hk => hk.2)⟩, ⟨by (with_reducible repeat (first | apply Kd.R_alloc | apply Kd.R_drewN | apply Kd.R_drew)); exact Kd.R_mono HO302.out (fun _ hk => hk.2)⟩, ⟨by (with_reducible repeat (first | apply Kd.R_alloc | apply Kd.R_drewN | apply Kd.R_drew)); exact HO296.out⟩, ⟨by (with_reducible repeat (first | refine blk_drewN ?_ _ | refine blk_drew ?_ | refine blk_alloc ?_ _)); exact BK283.out⟩, ⟨by (with_reducible repeat (first | refine blk_drewN ?_ _ | refine blk_drew ?_ | refine blk_alloc ?_ _)); exact BK299.out⟩, ⟨by repeat (first | (with_reducible first | exact HB.out | apply below_alloc | apply pw_below_drewN | apply below_drew1 | refine below_set ?_ GE283.out | refine below_set ?_ GE299.out) | exact HB.out)⟩⟩
        case round =>
         clear H'
         try clear c1
         try clear c2
         try clear p2
         try clear p6
         try clear c7
         try clear c7b0
         try clear c7b1
         try clear c8
         try clear c10
         try clear c15
         try clear c17
         try clear c18
         try clear c18b0
         try clear c18b1
         try clear c18b2
         try clear c19
         try clear c20
         try clear c21
         try clear c21b0
         try clear c24
         try clear c26
         try clear c27
         try clear hcz11_0
         try clear hcz11_1
         try clear hcz27_0
         try clear hcz27_1
         try clear hfz11_0
         try clear hfz11_1
         try clear hfz27_0
         try clear hfz27_1
         try clear p2
         try clear p6
         obtain ⟨x14_3, x15_3, rfl, HA, HK3, HO_8, HO_14, HO_300001, BK283, BK299, HB⟩ := hrel
         cases gk with
         | zero => exact absurd HA.out (by simp [fuguelaw01_CodeCuts.l0])
         | succ k3 =>
          have H := HA.out
          clear HA
          simp only [fuguelaw01_CodeCuts.l0] at H
          by_cases c30 : x15_3 < (l2.length : Int)
          ·rw [if_pos c30] at H
           have c30b0 : decide (x15_3 < (l2.length : Int)) = true := decide_eq_true c30
           clear c30
           by_cases c31 : 0 ≤ x15_3
           ·rw [if_pos c31] at H
            have c31b0 : decide (0 ≤ x15_3) = true := decide_eq_true c31
            clear c31
            by_cases c32 : x14_3.length < 175921860444160
            ·rw [if_pos c32] at H
             have LMc32 := Aside0.mk c32
             clear c32
             obtain ⟨y304, hy304⟩ : ∃ y_ : List Int, y_ = (x14_3 ++ [rd l2 x15_3]) := ⟨_, rfl⟩
             replace H : (fuguelaw01_CodeCuts.l0 k3 l2 t284 t289 x10_18 t297 t298 y304 (wrap64 (x15_3 + 1))) = some r := by first | (rw [hy304]; with_reducible exact H) | (have H2_ := (Option.bind_some _ _).symm.trans H; rw [hy304]; with_reducible exact H2_) | (have H2_ := (Option.bind_some _ _).symm.trans H; with_reducible exact H2_) | with_reducible exact H | (rw [hy304]; exact H) | exact H
             have Ny304 := Aside0.mk hy304
             clear hy304
             have H' := Aside0.mk H
             clear H
             have p303 : 0 ≤ (x15_3 : Int) := of_decide_eq_true (by first | (with_reducible assumption) | assumption)
             have q303 : x15_3 < (l2.length : Int) := of_decide_eq_true (by first | (with_reducible assumption) | assumption)
             obtain ⟨ad303, e303, hx303_0⟩ := Kd.at_int HR2.out x15_3 p303 q303
             cases e303
             replace hx303_0 := (HB.out.cell (World.block_lt_of_cell? w _ hx303_0)).trans hx303_0
             replace p303 := eq_true p303
             replace q303 := eq_true q303
             go_wp2_with (first | ((with_reducible refine gate_builtin (b := .append) (xs := #[.tmp 68, .tmp 73]) rfl ?_); (try (refine gate_guard (by rfl) ?_; dsimp only)); at_builtin; refine Kd.R_appendW (Kd.int .u8) (w0 := w) w.heap.size rfl (.tmp 68) (.tmp 73) 33 5 (.int .u8 0) 1 rfl Tryd.underlying33 info5 rfl (by decide) (by omega) (by omega) u14 x14_3 (rd l2 x15_3) [.int .u8 (rd l2 x15_3)] (fun k_ => some k_ ≠ (.slice Ao20 t289.length co20 : Value).ownBlock) (fun _ => False) rfl rfl ?aP (fun _ hk => hk.elim) ?aF ?aO ?aB ?aS ?aL ?_; (case aP => exact rfl); (case aB => exact (by repeat (first | (with_reducible first | exact HB.out | apply below_alloc | apply pw_below_drewN | apply below_drew1 | refine below_set ?_ GE283.out | refine below_set ?_ GE299.out) | exact HB.out))); (case aF => exact (fun k_ hk => Kd.fresh' (Kd.R_lt (by (with_reducible repeat (first | apply Kd.R_alloc | apply Kd.R_drewN | apply Kd.R_drew)); exact HO_8.out)) k_ hk)); (case aO => exact (by (with_reducible repeat (first | apply Kd.R_alloc | apply Kd.R_drewN | apply Kd.R_drew)); exact HO_14.out)); (case aS => exact (below_size (by repeat (first | (with_reducible first | exact HB.out | apply below_alloc | apply pw_below_drewN | apply below_drew1 | refine below_set ?_ GE283.out | refine below_set ?_ GE299.out) | exact HB.out)))); (case aL => have := LMc32.out; omega); intro v305 w33 ho hb hg hat; rw [← Ny304.out] at ho; have n0_ := Aside0.mk (Kd.R_after (ok := (fun _ => True)) (by (with_reducible repeat (first | apply Kd.R_alloc | apply Kd.R_drewN | apply Kd.R_drew)); exact Kd.R_mono HO_8.out (fun _ hk => ⟨trivial, hk⟩)) hg hat); have n1_ := Aside0.mk (Kd.R_over' (by (with_reducible repeat (first | apply Kd.R_alloc | apply Kd.R_drewN | apply Kd.R_drew)); exact HO_300001.out) (Kd.R_typed (by (with_reducible repeat (first | apply Kd.R_alloc | apply Kd.R_drewN | apply Kd.R_drew)); exact HO_14.out)) (by decide) hg); have n2_ := Aside0.mk (blk_grown (g := gb283) (o := .cells #[.int .i64 a0_0, .slice A0_1 l0_1.length c0_1] 24 (0, 0)) (by (with_reducible repeat (first | refine blk_drewN ?_ _ | refine blk_drew ?_ | refine blk_alloc ?_ _)); exact BK283.out) hg (Kd.R_ne HO_14.out BK283.out (by decide))); have n3_ := Aside0.mk (blk_grown (g := gb299) (o := .cells #[.int .i64 t293, .slice Ao28 t294.length co28] 24 (0, 0)) (by (with_reducible repeat (first | refine blk_drewN ?_ _ | refine blk_drew ?_ | refine blk_alloc ?_ _)); exact BK299.out) hg (Kd.R_ne HO_14.out BK299.out (by decide))); have n4_ := Aside0.mk (hb); have n5_ := Aside0.mk (ho); clear HO_8; clear HO_300001; clear BK283; clear BK299; clear HB; clear HO_14; have HO_8 := n0_; have HO_300001 := n1_; have BK283 := n2_; have BK299 := n3_; have HB := n4_; have HO306 := n5_; clear n0_ n1_ n2_ n3_ n4_ n5_; clear ho hb hg hat))
             go_roundg k3
             case measure => have := HJ7.out; have := HJ18.out; have := HK3.out; omega
             case rel => exact ⟨(y304), (wrap64 (x15_3 + 1)), (by first | rfl | (simp; done) | (simp [*]; done)), H', ⟨by have := HJ7.out; have := HJ18.out; have := HK3.out; omega⟩, ⟨by (with_reducible repeat (first | apply Kd.R_alloc | apply Kd.R_drewN | apply Kd.R_drew)); exact Kd.R_mono HO_8.out (fun _ hk => hk.2)⟩, ⟨by (with_reducible repeat (first | apply Kd.R_alloc | apply Kd.R_drewN | apply Kd.R_drew)); exact HO306.out⟩, ⟨by (with_reducible repeat (first | apply Kd.R_alloc | apply Kd.R_drewN | apply Kd.R_drew)); exact HO_300001.out⟩, ⟨by (with_reducible repeat (first | refine blk_drewN ?_ _ | refine blk_drew ?_ | refine blk_alloc ?_ _)); exact BK283.out⟩, ⟨by (with_reducible repeat (first | refine blk_drewN ?_ _ | refine blk_drew ?_ | refine blk_alloc ?_ _)); exact BK299.out⟩, ⟨by repeat (first | (with_reducible first | exact HB.out | apply below_alloc | apply pw_below_drewN | apply below_drew1 | refine below_set ?_ GE283.out | refine below_set ?_ GE299.out) | exact HB.out)⟩⟩
            ·rw [if_neg c32] at H
             exact absurd H (by simp)
           ·rw [if_neg c31] at H
            exact absurd H (by simp)
          ·rw [if_neg c30] at H
           have c30b0 : decide (x15_3 < (l2.length : Int)) = false := decide_eq_false c30
           clear c30
           replace H := Option.bind_eq_some_iff.mp H
           obtain ⟨⟨t307, t308, t311, t312⟩, A340, H⟩ := H
           replace H : (if t311 = 22 then (if (l2.length : Int) = 0 then (if t311 = 0 then (if t284 = true then (if t297 = 11 then (if t298 = x10_18 then (some (t312 == 0)) else (some false)) else (some false)) else (some false)) else (if t284 = true then (if t297 = 11 then (if t298 = x10_18 then (some false) else (some false)) else (some false)) else (some false))) else (if t284 = true then (if t297 = 11 then (if t298 = x10_18 then (some (t312 == (t289.length : Int))) else (some false)) else (some false)) else (some false))) else (if (l2.length : Int) = 0 then (if t311 = 0 then (if t284 = true then (if t297 = 11 then (if t298 = x10_18 then (some (t312 == 0)) else (some false)) else (some false)) else (some false)) else (if t284 = true then (if t297 = 11 then (if t298 = x10_18 then (some false) else (some false)) else (some false)) else (some false))) else (if t284 = true then (if t297 = 11 then (if t298 = x10_18 then (some false) else (some false)) else (some false)) else (some false)))) = some r := H
           have A34 := Aside0.mk A340
           clear A340
           by_cases c35 : t311 = 22
           ·rw [if_pos c35] at H
            have c35b0 : (t311 == 22) = true := beq_iff_eq.mpr c35
            have c35b1 : (t311 != 22) = false := bne_eq_false_iff_eq.mpr c35
            clear c35
            by_cases c36 : (l2.length : Int) = 0
            ·rw [if_pos c36] at H
             have c36b0 : ((l2.length : Int) == 0) = true := beq_iff_eq.mpr c36
             have c36b1 : ((l2.length : Int) != 0) = false := bne_eq_false_iff_eq.mpr c36
             clear c36
             by_cases c37 : t311 = 0
             ·rw [if_pos c37] at H
              have c37b0 : (t311 == 0) = true := beq_iff_eq.mpr c37
              have c37b1 : (t311 != 0) = false := bne_eq_false_iff_eq.mpr c37
              clear c37
              by_cases c38 : t284 = true
              ·subst c38
               have H1 : (if t297 = 11 then (if t298 = x10_18 then (some (t312 == 0)) else (some false)) else (some false)) = some r := by rw [if_pos rfl] at H; exact H
               clear H
               have H := H1
               clear H1
               by_cases c39 : t297 = 11
               ·rw [if_pos c39] at H
                have c39b0 : (t297 == 11) = true := beq_iff_eq.mpr c39
                have c39b1 : (t297 != 11) = false := bne_eq_false_iff_eq.mpr c39
                clear c39
                by_cases c40 : t298 = x10_18
                ·rw [if_pos c40] at H
                 have c40b0 : (t298 == x10_18) = true := beq_iff_eq.mpr c40
                 have c40b1 : (t298 != x10_18) = false := bne_eq_false_iff_eq.mpr c40
                 clear c40
                 obtain rfl := Option.some.inj H
                 obtain ⟨Ao41, co41, eo41⟩ := Kd.R_slice HO_14.out
                 subst eo41
                 go_wp2_with (first | ((with_reducible refine gate_callee (f := 24) rfl ?_); refine goesL_ (some 77) rfl rfl Tryd.func24 (by kernel_rfl) rfl #[.slice Ao41 x14_3.length co41] rfl (by (try simp only [List.map_toArray, List.map_cons, List.map_nil]); first | done | rfl | (simp only [List.length_drop, List.length_take]; rfl)) ?_; (with_reducible refine (code_Decode.calls _ _ x14_3 t307 t308 t311 t312 _ ?side1 ?side2 A34.out ?tab).mono ?_); (case tab => exact Tab.below HTab.out (by repeat (first | (with_reducible first | exact HB.out | apply below_alloc | apply pw_below_drewN | apply below_drew1 | refine below_set ?_ GE283.out | refine below_set ?_ GE299.out) | exact HB.out))); (case side1 => repeat (first | exact (Kd.R_reads' HO_14.out).2.2 | (with_reducible refine Kd.C_alloc ?_ _) | (with_reducible refine Kd.C_drewN ?_ _) | (with_reducible refine Kd.C_drew ?_))); (case side2 => exact (Kd.R_reads' HO_14.out).2.1); rintro e w42 ⟨v309, rfl, ho0, hb⟩; refine ⟨_, rfl, ?_⟩; have n0_ := Aside0.mk (Kd.R_below (by (with_reducible repeat (first | apply Kd.R_alloc | apply Kd.R_drewN | apply Kd.R_drew)); exact HO_8.out) hb); have n1_ := Aside0.mk (Kd.R_below (by (with_reducible repeat (first | apply Kd.R_alloc | apply Kd.R_drewN | apply Kd.R_drew)); exact HO_14.out) hb); have n2_ := Aside0.mk (Kd.R_elder' (by (with_reducible repeat (first | apply Kd.R_alloc | apply Kd.R_drewN | apply Kd.R_drew)); exact HO_300001.out) (Kd.R_base ho0) hb); have n3_ := Aside0.mk (Kd.R_lower (Kd.R_new' ho0 (Kd.R_lt (by (with_reducible repeat (first | apply Kd.R_alloc | apply Kd.R_drewN | apply Kd.R_drew)); exact HO_300001.out))) (below_size (by repeat (first | (with_reducible first | exact HB.out | apply below_alloc | apply pw_below_drewN | apply below_drew1 | refine below_set ?_ GE283.out | refine below_set ?_ GE299.out) | exact HB.out)))); have n4_ := Aside0.mk (blk_below (g := gb283) (o := .cells #[.int .i64 a0_0, .slice A0_1 l0_1.length c0_1] 24 (0, 0)) (by (with_reducible repeat (first | refine blk_drewN ?_ _ | refine blk_drew ?_ | refine blk_alloc ?_ _)); exact BK283.out) hb); have n5_ := Aside0.mk (blk_below (g := gb299) (o := .cells #[.int .i64 t293, .slice Ao28 t294.length co28] 24 (0, 0)) (by (with_reducible repeat (first | refine blk_drewN ?_ _ | refine blk_drew ?_ | refine blk_alloc ?_ _)); exact BK299.out) hb); have n6_ := Aside0.mk (below_step (by repeat (first | (with_reducible first | exact HB.out | apply below_alloc | apply pw_below_drewN | apply below_drew1 | refine below_set ?_ GE283.out | refine below_set ?_ GE299.out) | exact HB.out)) hb); clear HO_8; clear HO_14; clear HO_300001; clear BK283; clear BK299; clear HB; have HO_8 := n0_; have HO_14 := n1_; have HO_300001 := n2_; have HO310 := n3_; have BK283 := n4_; have BK299 := n5_; have HB := n6_; clear n0_ n1_ n2_ n3_ n4_ n5_ n6_; (try clear hb); (try clear hb2); (try clear hk); (try clear hi); (try clear ho0)) | ((with_reducible refine gate_dst (N := 16) rfl ?_); (try (refine gate_guard (by rfl) ?_; dsimp only)); refine box_event ?hg (N := 16) ?hd (cs := #[.int .i64 0, .slice none 0 0]) (t := 24) ?hr ?_; (case hd => rfl); (case hg => rfl); (case hr => first | (go_simp; done) | (go_simp; rfl)); intro gb313 hg w43 hbox hb; have n0_ := Aside0.mk (Kd.R_below (by (with_reducible repeat (first | apply Kd.R_alloc | apply Kd.R_drewN | apply Kd.R_drew)); exact HO_8.out) hb); have n1_ := Aside0.mk (Kd.R_below (by (with_reducible repeat (first | apply Kd.R_alloc | apply Kd.R_drewN | apply Kd.R_drew)); exact HO_14.out) hb); have n2_ := Aside0.mk (Kd.R_below (by (with_reducible repeat (first | apply Kd.R_alloc | apply Kd.R_drewN | apply Kd.R_drew)); exact HO_300001.out) hb); have n3_ := Aside0.mk (Kd.R_below (by (with_reducible repeat (first | apply Kd.R_alloc | apply Kd.R_drewN | apply Kd.R_drew)); exact HO310.out) hb); have n4_ := Aside0.mk (blk_below (g := gb283) (o := .cells #[.int .i64 a0_0, .slice A0_1 l0_1.length c0_1] 24 (0, 0)) (by (with_reducible repeat (first | refine blk_drewN ?_ _ | refine blk_drew ?_ | refine blk_alloc ?_ _)); exact BK283.out) hb); have n5_ := Aside0.mk (blk_below (g := gb299) (o := .cells #[.int .i64 t293, .slice Ao28 t294.length co28] 24 (0, 0)) (by (with_reducible repeat (first | refine blk_drewN ?_ _ | refine blk_drew ?_ | refine blk_alloc ?_ _)); exact BK299.out) hb); have n6_ := Aside0.mk (below_step (by repeat (first | (with_reducible first | exact HB.out | apply below_alloc | apply pw_below_drewN | apply below_drew1 | refine below_set ?_ GE283.out | refine below_set ?_ GE299.out) | exact HB.out)) hb); have n7_ := Aside0.mk (hbox); have n8_ := Aside0.mk ((by rw [hg]; exact (below_size (by repeat (first | (with_reducible first | exact HB.out | apply below_alloc | apply pw_below_drewN | apply below_drew1 | refine below_set ?_ GE283.out | refine below_set ?_ GE299.out) | exact HB.out))) : w.heap.size ≤ gb313)); have n9_ := Aside0.mk ((by rw [hg]; exact (below_size (by repeat (first | (with_reducible first | exact HB.out | apply below_alloc | apply pw_below_drewN | apply below_drew1 | refine below_set ?_ GE283.out | refine below_set ?_ GE299.out) | exact HB.out))) : w.heap.size ≤ gb313)); have n10_ := Aside0.mk ((by rw [hg]; exact Nat.ne_of_lt (blk_lt (g := gb283) (o := .cells #[.int .i64 a0_0, .slice A0_1 l0_1.length c0_1] 24 (0, 0)) (by (with_reducible repeat (first | refine blk_drewN ?_ _ | refine blk_drew ?_ | refine blk_alloc ?_ _)); exact BK283.out)) : gb283 ≠ gb313)); have n11_ := Aside0.mk ((by rw [hg]; exact Nat.ne_of_gt (blk_lt (g := gb283) (o := .cells #[.int .i64 a0_0, .slice A0_1 l0_1.length c0_1] 24 (0, 0)) (by (with_reducible repeat (first | refine blk_drewN ?_ _ | refine blk_drew ?_ | refine blk_alloc ?_ _)); exact BK283.out)) : gb313 ≠ gb283)); have n12_ := Aside0.mk ((by rw [hg]; exact Nat.ne_of_lt (blk_lt (g := gb299) (o := .cells #[.int .i64 t293, .slice Ao28 t294.length co28] 24 (0, 0)) (by (with_reducible repeat (first | refine blk_drewN ?_ _ | refine blk_drew ?_ | refine blk_alloc ?_ _)); exact BK299.out)) : gb299 ≠ gb313)); have n13_ := Aside0.mk ((by rw [hg]; exact Nat.ne_of_gt (blk_lt (g := gb299) (o := .cells #[.int .i64 t293, .slice Ao28 t294.length co28] 24 (0, 0)) (by (with_reducible repeat (first | refine blk_drewN ?_ _ | refine blk_drew ?_ | refine blk_alloc ?_ _)); exact BK299.out)) : gb313 ≠ gb299)); clear HO_8; clear HO_14; clear HO_300001; clear HO310; clear BK283; clear BK299; clear HB; have HO_8 := n0_; have HO_14 := n1_; have HO_300001 := n2_; have HO310 := n3_; have BK283 := n4_; have BK299 := n5_; have HB := n6_; have BK313 := n7_; have GW313 := n8_; have GE313 := n9_; have NB283_313 := n10_; have NB313_283 := n11_; have NB299_313 := n12_; have NB313_299 := n13_; clear n0_ n1_ n2_ n3_ n4_ n5_ n6_ n7_ n8_ n9_ n10_ n11_ n12_ n13_; clear hb hbox hg; have hnb44 := NB313_283.out; have hnc44 := NB283_313.out; have hnb45 := NB313_299.out; have hnc45 := NB299_313.out; have hcz46_0 : w43.cell? ⟨gb313, 0, none⟩ = some (.int .i64 0) := (blk_cell BK313.out 0).trans rfl; have hcz46_1 : w43.cell? ⟨gb313, 1, none⟩ = some (.slice none 0 0) := (blk_cell BK313.out 1).trans rfl; have hfz46_0 := blk_frozen BK313.out 0; have hfz46_1 := blk_frozen BK313.out 1; obtain ⟨Ao47, co47, eo47⟩ := Kd.R_slice HO310.out; subst eo47))
                 go_ret
                 exact ⟨by first | rfl | (simp [errW_none, errW_some] <;> rfl) | (simp [*, errW_none, errW_some] <;> rfl), by repeat (first | (with_reducible first | exact HB.out | apply below_alloc | apply pw_below_drewN | apply below_drew1 | refine below_set ?_ GE283.out | refine below_set ?_ GE299.out | refine below_set ?_ GE313.out) | exact HB.out)⟩
                ·rw [if_neg c40, Option.some.injEq] at H; subst H; cases hr_
               ·rw [if_neg c39, Option.some.injEq] at H; subst H; cases hr_
              ·rw [if_neg c38, Option.some.injEq] at H; subst H; cases hr_
             ·rw [if_neg c37] at H; (repeat' split at H) <;> (rw [Option.some.injEq] at H; subst H; cases hr_)
            ·rw [if_neg c36] at H
             have c36b0 : ((l2.length : Int) == 0) = false := beq_eq_false_iff_ne.mpr c36
             have c36b1 : ((l2.length : Int) != 0) = true := bne_iff_ne.mpr c36
             have c36b2 : ¬ (l2 = []) := fun h_ => c36 (by rw [h_]; rfl)
             by_cases c100 : t284 = true
             ·subst c100
              have H1 : (if t297 = 11 then (if t298 = x10_18 then (some (t312 == (t289.length : Int))) else (some false)) else (some false)) = some r := by rw [if_pos rfl] at H; exact H
              clear H
              have H := H1
              clear H1
              by_cases c101 : t297 = 11
              ·rw [if_pos c101] at H
               have c101b0 : (t297 == 11) = true := beq_iff_eq.mpr c101
               have c101b1 : (t297 != 11) = false := bne_eq_false_iff_eq.mpr c101
               clear c101
               by_cases c102 : t298 = x10_18
               ·rw [if_pos c102] at H
                have c102b0 : (t298 == x10_18) = true := beq_iff_eq.mpr c102
                have c102b1 : (t298 != x10_18) = false := bne_eq_false_iff_eq.mpr c102
                clear c102
                obtain rfl := Option.some.inj H
                obtain ⟨Ao103, co103, eo103⟩ := Kd.R_slice HO_14.out
                subst eo103
                go_wp2_with (first | ((with_reducible refine gate_callee (f := 24) rfl ?_); refine goesL_ (some 77) rfl rfl Tryd.func24 (by kernel_rfl) rfl #[.slice Ao103 x14_3.length co103] rfl (by (try simp only [List.map_toArray, List.map_cons, List.map_nil]); first | done | rfl | (simp only [List.length_drop, List.length_take]; rfl)) ?_; (with_reducible refine (code_Decode.calls _ _ x14_3 t307 t308 t311 t312 _ ?side1 ?side2 A34.out ?tab).mono ?_); (case tab => exact Tab.below HTab.out (by repeat (first | (with_reducible first | exact HB.out | apply below_alloc | apply pw_below_drewN | apply below_drew1 | refine below_set ?_ GE283.out | refine below_set ?_ GE299.out) | exact HB.out))); (case side1 => repeat (first | exact (Kd.R_reads' HO_14.out).2.2 | (with_reducible refine Kd.C_alloc ?_ _) | (with_reducible refine Kd.C_drewN ?_ _) | (with_reducible refine Kd.C_drew ?_))); (case side2 => exact (Kd.R_reads' HO_14.out).2.1); rintro e w104 ⟨v309, rfl, ho0, hb⟩; refine ⟨_, rfl, ?_⟩; have n0_ := Aside0.mk (Kd.R_below (by (with_reducible repeat (first | apply Kd.R_alloc | apply Kd.R_drewN | apply Kd.R_drew)); exact HO_8.out) hb); have n1_ := Aside0.mk (Kd.R_below (by (with_reducible repeat (first | apply Kd.R_alloc | apply Kd.R_drewN | apply Kd.R_drew)); exact HO_14.out) hb); have n2_ := Aside0.mk (Kd.R_elder' (by (with_reducible repeat (first | apply Kd.R_alloc | apply Kd.R_drewN | apply Kd.R_drew)); exact HO_300001.out) (Kd.R_base ho0) hb); have n3_ := Aside0.mk (Kd.R_lower (Kd.R_new' ho0 (Kd.R_lt (by (with_reducible repeat (first | apply Kd.R_alloc | apply Kd.R_drewN | apply Kd.R_drew)); exact HO_300001.out))) (below_size (by repeat (first | (with_reducible first | exact HB.out | apply below_alloc | apply pw_below_drewN | apply below_drew1 | refine below_set ?_ GE283.out | refine below_set ?_ GE299.out) | exact HB.out)))); have n4_ := Aside0.mk (blk_below (g := gb283) (o := .cells #[.int .i64 a0_0, .slice A0_1 l0_1.length c0_1] 24 (0, 0)) (by (with_reducible repeat (first | refine blk_drewN ?_ _ | refine blk_drew ?_ | refine blk_alloc ?_ _)); exact BK283.out) hb); have n5_ := Aside0.mk (blk_below (g := gb299) (o := .cells #[.int .i64 t293, .slice Ao28 t294.length co28] 24 (0, 0)) (by (with_reducible repeat (first | refine blk_drewN ?_ _ | refine blk_drew ?_ | refine blk_alloc ?_ _)); exact BK299.out) hb); have n6_ := Aside0.mk (below_step (by repeat (first | (with_reducible first | exact HB.out | apply below_alloc | apply pw_below_drewN | apply below_drew1 | refine below_set ?_ GE283.out | refine below_set ?_ GE299.out) | exact HB.out)) hb); clear HO_8; clear HO_14; clear HO_300001; clear BK283; clear BK299; clear HB; have HO_8 := n0_; have HO_14 := n1_; have HO_300001 := n2_; have HO310 := n3_; have BK283 := n4_; have BK299 := n5_; have HB := n6_; clear n0_ n1_ n2_ n3_ n4_ n5_ n6_; (try clear hb); (try clear hb2); (try clear hk); (try clear hi); (try clear ho0)) | ((with_reducible refine gate_dst (N := 16) rfl ?_); (try (refine gate_guard (by rfl) ?_; dsimp only)); refine box_event ?hg (N := 16) ?hd (cs := #[.int .i64 0, .slice none 0 0]) (t := 24) ?hr ?_; (case hd => rfl); (case hg => rfl); (case hr => first | (go_simp; done) | (go_simp; rfl)); intro gb313 hg w105 hbox hb; have n0_ := Aside0.mk (Kd.R_below (by (with_reducible repeat (first | apply Kd.R_alloc | apply Kd.R_drewN | apply Kd.R_drew)); exact HO_8.out) hb); have n1_ := Aside0.mk (Kd.R_below (by (with_reducible repeat (first | apply Kd.R_alloc | apply Kd.R_drewN | apply Kd.R_drew)); exact HO_14.out) hb); have n2_ := Aside0.mk (Kd.R_below (by (with_reducible repeat (first | apply Kd.R_alloc | apply Kd.R_drewN | apply Kd.R_drew)); exact HO_300001.out) hb); have n3_ := Aside0.mk (Kd.R_below (by (with_reducible repeat (first | apply Kd.R_alloc | apply Kd.R_drewN | apply Kd.R_drew)); exact HO310.out) hb); have n4_ := Aside0.mk (blk_below (g := gb283) (o := .cells #[.int .i64 a0_0, .slice A0_1 l0_1.length c0_1] 24 (0, 0)) (by (with_reducible repeat (first | refine blk_drewN ?_ _ | refine blk_drew ?_ | refine blk_alloc ?_ _)); exact BK283.out) hb); have n5_ := Aside0.mk (blk_below (g := gb299) (o := .cells #[.int .i64 t293, .slice Ao28 t294.length co28] 24 (0, 0)) (by (with_reducible repeat (first | refine blk_drewN ?_ _ | refine blk_drew ?_ | refine blk_alloc ?_ _)); exact BK299.out) hb); have n6_ := Aside0.mk (below_step (by repeat (first | (with_reducible first | exact HB.out | apply below_alloc | apply pw_below_drewN | apply below_drew1 | refine below_set ?_ GE283.out | refine below_set ?_ GE299.out) | exact HB.out)) hb); have n7_ := Aside0.mk (hbox); have n8_ := Aside0.mk ((by rw [hg]; exact (below_size (by repeat (first | (with_reducible first | exact HB.out | apply below_alloc | apply pw_below_drewN | apply below_drew1 | refine below_set ?_ GE283.out | refine below_set ?_ GE299.out) | exact HB.out))) : w.heap.size ≤ gb313)); have n9_ := Aside0.mk ((by rw [hg]; exact (below_size (by repeat (first | (with_reducible first | exact HB.out | apply below_alloc | apply pw_below_drewN | apply below_drew1 | refine below_set ?_ GE283.out | refine below_set ?_ GE299.out) | exact HB.out))) : w.heap.size ≤ gb313)); have n10_ := Aside0.mk ((by rw [hg]; exact Nat.ne_of_lt (blk_lt (g := gb283) (o := .cells #[.int .i64 a0_0, .slice A0_1 l0_1.length c0_1] 24 (0, 0)) (by (with_reducible repeat (first | refine blk_drewN ?_ _ | refine blk_drew ?_ | refine blk_alloc ?_ _)); exact BK283.out)) : gb283 ≠ gb313)); have n11_ := Aside0.mk ((by rw [hg]; exact Nat.ne_of_gt (blk_lt (g := gb283) (o := .cells #[.int .i64 a0_0, .slice A0_1 l0_1.length c0_1] 24 (0, 0)) (by (with_reducible repeat (first | refine blk_drewN ?_ _ | refine blk_drew ?_ | refine blk_alloc ?_ _)); exact BK283.out)) : gb313 ≠ gb283)); have n12_ := Aside0.mk ((by rw [hg]; exact Nat.ne_of_lt (blk_lt (g := gb299) (o := .cells #[.int .i64 t293, .slice Ao28 t294.length co28] 24 (0, 0)) (by (with_reducible repeat (first | refine blk_drewN ?_ _ | refine blk_drew ?_ | refine blk_alloc ?_ _)); exact BK299.out)) : gb299 ≠ gb313)); have n13_ := Aside0.mk ((by rw [hg]; exact Nat.ne_of_gt (blk_lt (g := gb299) (o := .cells #[.int .i64 t293, .slice Ao28 t294.length co28] 24 (0, 0)) (by (with_reducible repeat (first | refine blk_drewN ?_ _ | refine blk_drew ?_ | refine blk_alloc ?_ _)); exact BK299.out)) : gb313 ≠ gb299)); clear HO_8; clear HO_14; clear HO_300001; clear HO310; clear BK283; clear BK299; clear HB; have HO_8 := n0_; have HO_14 := n1_; have HO_300001 := n2_; have HO310 := n3_; have BK283 := n4_; have BK299 := n5_; have HB := n6_; have BK313 := n7_; have GW313 := n8_; have GE313 := n9_; have NB283_313 := n10_; have NB313_283 := n11_; have NB299_313 := n12_; have NB313_299 := n13_; clear n0_ n1_ n2_ n3_ n4_ n5_ n6_ n7_ n8_ n9_ n10_ n11_ n12_ n13_; clear hb hbox hg; have hnb106 := NB313_283.out; have hnc106 := NB283_313.out; have hnb107 := NB313_299.out; have hnc107 := NB299_313.out; have hcz108_0 : w105.cell? ⟨gb313, 0, none⟩ = some (.int .i64 0) := (blk_cell BK313.out 0).trans rfl; have hcz108_1 : w105.cell? ⟨gb313, 1, none⟩ = some (.slice none 0 0) := (blk_cell BK313.out 1).trans rfl; have hfz108_0 := blk_frozen BK313.out 0; have hfz108_1 := blk_frozen BK313.out 1; obtain ⟨Ao109, co109, eo109⟩ := Kd.R_slice HO310.out; subst eo109))
                go_ret
                exact ⟨by first | rfl | (simp [errW_none, errW_some] <;> rfl) | (simp [*, errW_none, errW_some] <;> rfl), by repeat (first | (with_reducible first | exact HB.out | apply below_alloc | apply pw_below_drewN | apply below_drew1 | refine below_set ?_ GE283.out | refine below_set ?_ GE299.out | refine below_set ?_ GE313.out) | exact HB.out)⟩
               ·rw [if_neg c102, Option.some.injEq] at H; subst H; cases hr_
              ·rw [if_neg c101, Option.some.injEq] at H; subst H; cases hr_
             ·rw [if_neg c100, Option.some.injEq] at H; subst H; cases hr_
           ·rw [if_neg c35] at H
            have c35b0 : (t311 == 22) = false := beq_eq_false_iff_ne.mpr c35
            have c35b1 : (t311 != 22) = true := bne_iff_ne.mpr c35
            by_cases c131 : (l2.length : Int) = 0
            ·rw [if_pos c131] at H
             have c131b0 : ((l2.length : Int) == 0) = true := beq_iff_eq.mpr c131
             have c131b1 : ((l2.length : Int) != 0) = false := bne_eq_false_iff_eq.mpr c131
             clear c131
             by_cases c132 : t311 = 0
             ·rw [if_pos c132] at H
              have c132b0 : (t311 == 0) = true := beq_iff_eq.mpr c132
              have c132b1 : (t311 != 0) = false := bne_eq_false_iff_eq.mpr c132
              clear c132
              by_cases c133 : t284 = true
              ·subst c133
               have H1 : (if t297 = 11 then (if t298 = x10_18 then (some (t312 == 0)) else (some false)) else (some false)) = some r := by rw [if_pos rfl] at H; exact H
               clear H
               have H := H1
               clear H1
               by_cases c134 : t297 = 11
               ·rw [if_pos c134] at H
                have c134b0 : (t297 == 11) = true := beq_iff_eq.mpr c134
                have c134b1 : (t297 != 11) = false := bne_eq_false_iff_eq.mpr c134
                clear c134
                by_cases c135 : t298 = x10_18
                ·rw [if_pos c135] at H
                 have c135b0 : (t298 == x10_18) = true := beq_iff_eq.mpr c135
                 have c135b1 : (t298 != x10_18) = false := bne_eq_false_iff_eq.mpr c135
                 clear c135
                 obtain rfl := Option.some.inj H
                 obtain ⟨Ao136, co136, eo136⟩ := Kd.R_slice HO_14.out
                 subst eo136
                 go_wp2_with (first | ((with_reducible refine gate_callee (f := 24) rfl ?_); refine goesL_ (some 77) rfl rfl Tryd.func24 (by kernel_rfl) rfl #[.slice Ao136 x14_3.length co136] rfl (by (try simp only [List.map_toArray, List.map_cons, List.map_nil]); first | done | rfl | (simp only [List.length_drop, List.length_take]; rfl)) ?_; (with_reducible refine (code_Decode.calls _ _ x14_3 t307 t308 t311 t312 _ ?side1 ?side2 A34.out ?tab).mono ?_); (case tab => exact Tab.below HTab.out (by repeat (first | (with_reducible first | exact HB.out | apply below_alloc | apply pw_below_drewN | apply below_drew1 | refine below_set ?_ GE283.out | refine below_set ?_ GE299.out) | exact HB.out))); (case side1 => repeat (first | exact (Kd.R_reads' HO_14.out).2.2 | (with_reducible refine Kd.C_alloc ?_ _) | (with_reducible refine Kd.C_drewN ?_ _) | (with_reducible refine Kd.C_drew ?_))); (case side2 => exact (Kd.R_reads' HO_14.out).2.1); rintro e w137 ⟨v309, rfl, ho0, hb⟩; refine ⟨_, rfl, ?_⟩; have n0_ := Aside0.mk (Kd.R_below (by (with_reducible repeat (first | apply Kd.R_alloc | apply Kd.R_drewN | apply Kd.R_drew)); exact HO_8.out) hb); have n1_ := Aside0.mk (Kd.R_below (by (with_reducible repeat (first | apply Kd.R_alloc | apply Kd.R_drewN | apply Kd.R_drew)); exact HO_14.out) hb); have n2_ := Aside0.mk (Kd.R_elder' (by (with_reducible repeat (first | apply Kd.R_alloc | apply Kd.R_drewN | apply Kd.R_drew)); exact HO_300001.out) (Kd.R_base ho0) hb); have n3_ := Aside0.mk (Kd.R_lower (Kd.R_new' ho0 (Kd.R_lt (by (with_reducible repeat (first | apply Kd.R_alloc | apply Kd.R_drewN | apply Kd.R_drew)); exact HO_300001.out))) (below_size (by repeat (first | (with_reducible first | exact HB.out | apply below_alloc | apply pw_below_drewN | apply below_drew1 | refine below_set ?_ GE283.out | refine below_set ?_ GE299.out) | exact HB.out)))); have n4_ := Aside0.mk (blk_below (g := gb283) (o := .cells #[.int .i64 a0_0, .slice A0_1 l0_1.length c0_1] 24 (0, 0)) (by (with_reducible repeat (first | refine blk_drewN ?_ _ | refine blk_drew ?_ | refine blk_alloc ?_ _)); exact BK283.out) hb); have n5_ := Aside0.mk (blk_below (g := gb299) (o := .cells #[.int .i64 t293, .slice Ao28 t294.length co28] 24 (0, 0)) (by (with_reducible repeat (first | refine blk_drewN ?_ _ | refine blk_drew ?_ | refine blk_alloc ?_ _)); exact BK299.out) hb); have n6_ := Aside0.mk (below_step (by repeat (first | (with_reducible first | exact HB.out | apply below_alloc | apply pw_below_drewN | apply below_drew1 | refine below_set ?_ GE283.out | refine below_set ?_ GE299.out) | exact HB.out)) hb); clear HO_8; clear HO_14; clear HO_300001; clear BK283; clear BK299; clear HB; have HO_8 := n0_; have HO_14 := n1_; have HO_300001 := n2_; have HO310 := n3_; have BK283 := n4_; have BK299 := n5_; have HB := n6_; clear n0_ n1_ n2_ n3_ n4_ n5_ n6_; (try clear hb); (try clear hb2); (try clear hk); (try clear hi); (try clear ho0)) | ((with_reducible refine gate_dst (N := 16) rfl ?_); (try (refine gate_guard (by rfl) ?_; dsimp only)); refine box_event ?hg (N := 16) ?hd (cs := #[.int .i64 0, .slice none 0 0]) (t := 24) ?hr ?_; (case hd => rfl); (case hg => rfl); (case hr => first | (go_simp; done) | (go_simp; rfl)); intro gb313 hg w138 hbox hb; have n0_ := Aside0.mk (Kd.R_below (by (with_reducible repeat (first | apply Kd.R_alloc | apply Kd.R_drewN | apply Kd.R_drew)); exact HO_8.out) hb); have n1_ := Aside0.mk (Kd.R_below (by (with_reducible repeat (first | apply Kd.R_alloc | apply Kd.R_drewN | apply Kd.R_drew)); exact HO_14.out) hb); have n2_ := Aside0.mk (Kd.R_below (by (with_reducible repeat (first | apply Kd.R_alloc | apply Kd.R_drewN | apply Kd.R_drew)); exact HO_300001.out) hb); have n3_ := Aside0.mk (Kd.R_below (by (with_reducible repeat (first | apply Kd.R_alloc | apply Kd.R_drewN | apply Kd.R_drew)); exact HO310.out) hb); have n4_ := Aside0.mk (blk_below (g := gb283) (o := .cells #[.int .i64 a0_0, .slice A0_1 l0_1.length c0_1] 24 (0, 0)) (by (with_reducible repeat (first | refine blk_drewN ?_ _ | refine blk_drew ?_ | refine blk_alloc ?_ _)); exact BK283.out) hb); have n5_ := Aside0.mk (blk_below (g := gb299) (o := .cells #[.int .i64 t293, .slice Ao28 t294.length co28] 24 (0, 0)) (by (with_reducible repeat (first | refine blk_drewN ?_ _ | refine blk_drew ?_ | refine blk_alloc ?_ _)); exact BK299.out) hb); have n6_ := Aside0.mk (below_step (by repeat (first | (with_reducible first | exact HB.out | apply below_alloc | apply pw_below_drewN | apply below_drew1 | refine below_set ?_ GE283.out | refine below_set ?_ GE299.out) | exact HB.out)) hb); have n7_ := Aside0.mk (hbox); have n8_ := Aside0.mk ((by rw [hg]; exact (below_size (by repeat (first | (with_reducible first | exact HB.out | apply below_alloc | apply pw_below_drewN | apply below_drew1 | refine below_set ?_ GE283.out | refine below_set ?_ GE299.out) | exact HB.out))) : w.heap.size ≤ gb313)); have n9_ := Aside0.mk ((by rw [hg]; exact (below_size (by repeat (first | (with_reducible first | exact HB.out | apply below_alloc | apply pw_below_drewN | apply below_drew1 | refine below_set ?_ GE283.out | refine below_set ?_ GE299.out) | exact HB.out))) : w.heap.size ≤ gb313)); have n10_ := Aside0.mk ((by rw [hg]; exact Nat.ne_of_lt (blk_lt (g := gb283) (o := .cells #[.int .i64 a0_0, .slice A0_1 l0_1.length c0_1] 24 (0, 0)) (by (with_reducible repeat (first | refine blk_drewN ?_ _ | refine blk_drew ?_ | refine blk_alloc ?_ _)); exact BK283.out)) : gb283 ≠ gb313)); have n11_ := Aside0.mk ((by rw [hg]; exact Nat.ne_of_gt (blk_lt (g := gb283) (o := .cells #[.int .i64 a0_0, .slice A0_1 l0_1.length c0_1] 24 (0, 0)) (by (with_reducible repeat (first | refine blk_drewN ?_ _ | refine blk_drew ?_ | refine blk_alloc ?_ _)); exact BK283.out)) : gb313 ≠ gb283)); have n12_ := Aside0.mk ((by rw [hg]; exact Nat.ne_of_lt (blk_lt (g := gb299) (o := .cells #[.int .i64 t293, .slice Ao28 t294.length co28] 24 (0, 0)) (by (with_reducible repeat (first | refine blk_drewN ?_ _ | refine blk_drew ?_ | refine blk_alloc ?_ _)); exact BK299.out)) : gb299 ≠ gb313)); have n13_ := Aside0.mk ((by rw [hg]; exact Nat.ne_of_gt (blk_lt (g := gb299) (o := .cells #[.int .i64 t293, .slice Ao28 t294.length co28] 24 (0, 0)) (by (with_reducible repeat (first | refine blk_drewN ?_ _ | refine blk_drew ?_ | refine blk_alloc ?_ _)); exact BK299.out)) : gb313 ≠ gb299)); clear HO_8; clear HO_14; clear HO_300001; clear HO310; clear BK283; clear BK299; clear HB; have HO_8 := n0_; have HO_14 := n1_; have HO_300001 := n2_; have HO310 := n3_; have BK283 := n4_; have BK299 := n5_; have HB := n6_; have BK313 := n7_; have GW313 := n8_; have GE313 := n9_; have NB283_313 := n10_; have NB313_283 := n11_; have NB299_313 := n12_; have NB313_299 := n13_; clear n0_ n1_ n2_ n3_ n4_ n5_ n6_ n7_ n8_ n9_ n10_ n11_ n12_ n13_; clear hb hbox hg; have hnb139 := NB313_283.out; have hnc139 := NB283_313.out; have hnb140 := NB313_299.out; have hnc140 := NB299_313.out; have hcz141_0 : w138.cell? ⟨gb313, 0, none⟩ = some (.int .i64 0) := (blk_cell BK313.out 0).trans rfl; have hcz141_1 : w138.cell? ⟨gb313, 1, none⟩ = some (.slice none 0 0) := (blk_cell BK313.out 1).trans rfl; have hfz141_0 := blk_frozen BK313.out 0; have hfz141_1 := blk_frozen BK313.out 1; obtain ⟨Ao142, co142, eo142⟩ := Kd.R_slice HO310.out; subst eo142))
                 go_ret
                 exact ⟨by first | rfl | (simp [errW_none, errW_some] <;> rfl) | (simp [*, errW_none, errW_some] <;> rfl), by repeat (first | (with_reducible first | exact HB.out | apply below_alloc | apply pw_below_drewN | apply below_drew1 | refine below_set ?_ GE283.out | refine below_set ?_ GE299.out | refine below_set ?_ GE313.out) | exact HB.out)⟩
                ·rw [if_neg c135, Option.some.injEq] at H; subst H; cases hr_
               ·rw [if_neg c134, Option.some.injEq] at H; subst H; cases hr_
              ·rw [if_neg c133, Option.some.injEq] at H; subst H; cases hr_
             ·rw [if_neg c132] at H; (repeat' split at H) <;> (rw [Option.some.injEq] at H; subst H; cases hr_)
            ·rw [if_neg c131] at H; (repeat' split at H) <;> (rw [Option.some.injEq] at H; subst H; cases hr_)
 ·rw [if_neg c7] at H
  have c7b0 : (t292 == 0) = false := beq_eq_false_iff_ne.mpr c7
  have c7b1 : (t292 != 0) = true := bne_iff_ne.mpr c7
  by_cases c226 : t284 = true
  ·subst c226
   have H1 : (some ((t289.length : Int) == 0)) = some r := by rw [if_pos rfl] at H; exact H
   clear H
   have H := H1
   clear H1
   obtain rfl := Option.some.inj H
   go_enter Tryd.func8, Tryd.ntmps8
   go_wp2_with (first | ((with_reducible refine gate_dst (N := 3) rfl ?_); (try (refine gate_guard (by rfl) ?_; dsimp only)); refine box_event ?hg (N := 3) ?hd (cs := #[.int .i64 a0_0, .slice A0_1 l0_1.length c0_1]) (t := 24) ?hr ?_; (case hd => rfl); (case hg => rfl); (case hr => first | (go_simp; done) | (go_simp; rfl)); intro gb283 hg w227 hbox hb; have n0_ := Aside0.mk (below_step (by repeat (first | (with_reducible first | exact HB.out | apply below_alloc | apply pw_below_drewN | apply below_drew1) | exact HB.out)) hb); have n1_ := Aside0.mk (hbox); have n2_ := Aside0.mk ((by rw [hg]; exact (below_size (by repeat (first | (with_reducible first | exact HB.out | apply below_alloc | apply pw_below_drewN | apply below_drew1) | exact HB.out))) : w.heap.size ≤ gb283)); have n3_ := Aside0.mk ((by rw [hg]; exact (below_size (by repeat (first | (with_reducible first | exact HB.out | apply below_alloc | apply pw_below_drewN | apply below_drew1) | exact HB.out))) : w.heap.size ≤ gb283)); clear HB; have HB := n0_; have BK283 := n1_; have GW283 := n2_; have GE283 := n3_; clear n0_ n1_ n2_ n3_; clear hb hbox hg) | ((with_reducible refine gate_callee (f := 10) rfl ?_); refine goesL_ (some 20) rfl rfl Tryd.func10 (by kernel_rfl) rfl #[] rfl (by (try simp only [List.map_toArray, List.map_cons, List.map_nil]); first | done | rfl | (simp only [List.length_drop, List.length_take]; rfl)) ?_; (with_reducible refine (fuguelaw01_works.calls k  true _ A4.out ?tab).mono ?_); (case tab => exact Tab.below HTab.out (by repeat (first | (with_reducible first | exact HB.out | apply below_alloc | apply pw_below_drewN | apply below_drew1 | refine below_set ?_ GE283.out) | exact HB.out))); rintro e w228 ⟨rfl, hb⟩; refine ⟨_, rfl, ?_⟩; have n0_ := Aside0.mk (blk_below (g := gb283) (o := .cells #[.int .i64 a0_0, .slice A0_1 l0_1.length c0_1] 24 (0, 0)) (by (with_reducible repeat (first | refine blk_drewN ?_ _ | refine blk_drew ?_ | refine blk_alloc ?_ _)); exact BK283.out) hb); have n1_ := Aside0.mk (below_step (by repeat (first | (with_reducible first | exact HB.out | apply below_alloc | apply pw_below_drewN | apply below_drew1 | refine below_set ?_ GE283.out) | exact HB.out)) hb); clear BK283; clear HB; have BK283 := n0_; have HB := n1_; clear n0_ n1_; (try clear hb); (try clear hb2); (try clear hk); (try clear hi); have hcz229_0 : w228.cell? ⟨gb283, 0, none⟩ = some (.int .i64 a0_0) := (blk_cell BK283.out 0).trans rfl; have hcz229_1 : w228.cell? ⟨gb283, 1, none⟩ = some (.slice A0_1 l0_1.length c0_1) := (blk_cell BK283.out 1).trans rfl; have hfz229_0 := blk_frozen BK283.out 0; have hfz229_1 := blk_frozen BK283.out 1) | ((with_reducible refine gate_callee (f := 19) rfl ?_); refine goesL_ (some 23) rfl rfl Tryd.func19 (by kernel_rfl) rfl #[.agg #[.int .i64 a0_0, .slice A0_1 l0_1.length c0_1]] rfl (by (try simp only [List.map_toArray, List.map_cons, List.map_nil]); first | done | rfl | (simp only [List.length_drop, List.length_take]; rfl)) ?_; (with_reducible refine (fugueref00_CopyProgram.calls k a0_0 _ _ l0_1 t285 t286 _ ?side1 ?side2 A5.out).mono ?_); (case side1 => repeat (first | exact (Kd.C_below HR0_1.out HB.out) | (with_reducible refine Kd.C_alloc ?_ _) | (with_reducible refine Kd.C_drewN ?_ _) | (with_reducible refine Kd.C_drew ?_))); (case side2 => exact HC0_1.out); rintro e w230 ⟨v287, rfl, ho0, hb⟩; refine ⟨_, rfl, ?_⟩; have n0_ := Aside0.mk (Kd.R_lower ho0 (below_size (by repeat (first | (with_reducible first | exact HB.out | apply below_alloc | apply pw_below_drewN | apply below_drew1 | refine below_set ?_ GE283.out) | exact HB.out)))); have n1_ := Aside0.mk (blk_below (g := gb283) (o := .cells #[.int .i64 a0_0, .slice A0_1 l0_1.length c0_1] 24 (0, 0)) (by (with_reducible repeat (first | refine blk_drewN ?_ _ | refine blk_drew ?_ | refine blk_alloc ?_ _)); exact BK283.out) hb); have n2_ := Aside0.mk (below_step (by repeat (first | (with_reducible first | exact HB.out | apply below_alloc | apply pw_below_drewN | apply below_drew1 | refine below_set ?_ GE283.out) | exact HB.out)) hb); clear BK283; clear HB; have HO288 := n0_; have BK283 := n1_; have HB := n2_; clear n0_ n1_ n2_; (try clear hb); (try clear hb2); (try clear hk); (try clear hi); (try clear ho0); obtain ⟨Ao231, co231, eo231⟩ := Kd.R_slice HO288.out; subst eo231) | ((with_reducible refine gate_callee (f := 20) rfl ?_); refine goesL_ (some 24) rfl rfl Tryd.func20 (by kernel_rfl) rfl #[.agg #[.int .i64 t285, .slice Ao231 t286.length co231]] rfl (by (try simp only [List.map_toArray, List.map_cons, List.map_nil]); first | done | rfl | (simp only [List.length_drop, List.length_take]; rfl)) ?_; (with_reducible refine (code_Encode.calls t285 _ _ t286 t289 t292 _ ?side1 ?side2 A6.out ?tab).mono ?_); (case tab => exact Tab.below HTab.out (by repeat (first | (with_reducible first | exact HB.out | apply below_alloc | apply pw_below_drewN | apply below_drew1 | refine below_set ?_ GE283.out) | exact HB.out))); (case side1 => repeat (first | exact (Kd.R_reads' HO288.out).2.2 | (with_reducible refine Kd.C_alloc ?_ _) | (with_reducible refine Kd.C_drewN ?_ _) | (with_reducible refine Kd.C_drew ?_))); (case side2 => exact (Kd.R_reads' HO288.out).2.1); rintro e w232 ⟨v290, rfl, ho0, hb⟩; refine ⟨_, rfl, ?_⟩; have n0_ := Aside0.mk (Kd.R_below (by (with_reducible repeat (first | apply Kd.R_alloc | apply Kd.R_drewN | apply Kd.R_drew)); exact HO288.out) hb); have n1_ := Aside0.mk (Kd.R_lower ho0 (below_size (by repeat (first | (with_reducible first | exact HB.out | apply below_alloc | apply pw_below_drewN | apply below_drew1 | refine below_set ?_ GE283.out) | exact HB.out)))); have n2_ := Aside0.mk (blk_below (g := gb283) (o := .cells #[.int .i64 a0_0, .slice A0_1 l0_1.length c0_1] 24 (0, 0)) (by (with_reducible repeat (first | refine blk_drewN ?_ _ | refine blk_drew ?_ | refine blk_alloc ?_ _)); exact BK283.out) hb); have n3_ := Aside0.mk (below_step (by repeat (first | (with_reducible first | exact HB.out | apply below_alloc | apply pw_below_drewN | apply below_drew1 | refine below_set ?_ GE283.out) | exact HB.out)) hb); clear HO288; clear BK283; clear HB; have HO288 := n0_; have HO291 := n1_; have BK283 := n2_; have HB := n3_; clear n0_ n1_ n2_ n3_; (try clear hb); (try clear hb2); (try clear hk); (try clear hi); (try clear ho0); obtain ⟨Ao233, co233, eo233⟩ := Kd.R_slice HO291.out; subst eo233))
   go_ret
   exact ⟨by first | rfl | (simp [errW_none, errW_some] <;> rfl) | (simp [*, errW_none, errW_some] <;> rfl), by repeat (first | (with_reducible first | exact HB.out | apply below_alloc | apply pw_below_drewN | apply below_drew1 | refine below_set ?_ GE283.out) | exact HB.out)⟩
  ·rw [if_neg c226, Option.some.injEq] at H; subst H; cases hr_
end Go.Proofs.YteonppgdmhakoaaDoor.PC
namespace Go.Proofs.YteonppgdmhakoaaDoor.PC
open Go.RowKit Go.Proofs.YteonppgdmhakoaaDoorW.PrintWords Go.Proofs.YteonppgdmhakoaaDoorW.PrintLast Go.Proofs.YteonppgdmhakoaaDoorW.PrintMore
set_option linter.unusedVariables false
set_option linter.unusedSimpArgs false
abbrev Bytes (bs : List Int) : Prop := ∀ x ∈ bs, 0 ≤ x ∧ x ≤ 255
def Ag (n : Nat) (bs bs' : List Int) : Prop := n ≤ bs'.length ∧ ∀ i, i < n → bs'.getD i 0 = bs.getD i 0
theorem Ag.mono {m n : Nat} {bs bs' : List Int} (h : Ag n bs bs') (hm : m ≤ n) : Ag m bs bs' := ⟨Nat.le_trans hm h.1, fun i hi => h.2 i (Nat.lt_of_lt_of_le hi hm)⟩
theorem Ag.take {n : Nat} {bs bs' : List Int} (h : Ag n bs bs') (hn : n ≤ bs.length) : bs'.take n = bs.take n := by
 have h1 := h.1
 apply List.ext_getElem
 ·rw [List.length_take, List.length_take]; omega
 ·intro i hi hj
  rw [List.length_take] at hi hj
  have := h.2 i (by omega)
  rw [List.getD_eq_getElem?_getD, List.getD_eq_getElem?_getD, List.getElem?_eq_getElem (by omega), List.getElem?_eq_getElem (by omega)] at this
  rw [List.getElem_take, List.getElem_take]
  exact this
abbrev Ex (α : Type) := Except (Int × Int) α
def bindE {α β : Type} (x : Ex α) (g : α → Ex β) : Ex β := match x with
 | .error e => .error e
 | .ok a => g a
structure LocR {α : Type} (p M : Nat) (f : List Int → Ex α) (e : α → Nat) : Prop where
 ok : ∀ bs a, Bytes bs → p ≤ bs.length → f bs = .ok a → p ≤ e a ∧ e a ≤ bs.length ∧ e a ≤ p + M
 same : ∀ bs a bs', Bytes bs → p ≤ bs.length → f bs = .ok a → Ag (e a) bs bs' → f bs' = .ok a
 cut : ∀ bs a bs', Bytes bs → p ≤ bs.length → f bs = .ok a → p ≤ bs'.length → bs'.length < e a → Ag bs'.length bs bs' → f bs' = .error (11, bs'.length)
 err : ∀ bs er, Bytes bs → p ≤ bs.length → f bs = .error er → er = (11, (bs.length : Int)) ∨ er = (10, 0) ∨ ∃ q k : Nat, er.2 = q ∧ k ≤ 5 ∧ p ≤ q ∧ q ≤ p + M ∧ q + k ≤ bs.length ∧ ∀ bs', Ag (q + k) bs bs' → f bs' = .error er
section
variable {α β σ : Type}
theorem LocR.congr {p M : Nat} {f f' : List Int → Ex α} {e : α → Nat} (h : LocR p M f e) (he : ∀ bs, f' bs = f bs) : LocR p M f' e := by
 obtain rfl : f' = f := funext he
 exact h
theorem LocR.mono {p M M' : Nat} {f : List Int → Ex α} {e : α → Nat} (h : LocR p M f e) (hM : M ≤ M') : LocR p M' f e where
 ok := fun bs a hb hp hf => ⟨(h.ok bs a hb hp hf).1, (h.ok bs a hb hp hf).2.1, by have := (h.ok bs a hb hp hf).2.2; omega⟩
 same := h.same
 cut := h.cut
 err := fun bs er hb hp hf => by
  rcases h.err bs er hb hp hf with r | r | ⟨q, k, r1, r2, r3, r4, r5⟩
  ·exact .inl r
  ·exact .inr (.inl r)
  ·exact .inr (.inr ⟨q, k, r1, r2, r3, by omega, r5⟩)
theorem LocR.bind {p M1 M2 : Nat} {f : List Int → Ex α} {e : α → Nat} {g : α → List Int → Ex β} {e2 : β → Nat} (hf : LocR p M1 f e) (P : α → Prop) (hP : ∀ bs a, Bytes bs → p ≤ bs.length → f bs = .ok a → P a) (hg : ∀ a, P a → LocR (e a) M2 (g a) e2) : LocR p (M1 + M2) (fun bs => bindE (f bs) fun a => g a bs) e2 where
 ok := fun bs b hb hp h => by
  cases hq : f bs with
  | error er => simp only [hq, bindE] at h; cases h
  | ok a =>
   simp only [hq, bindE] at h
   have h1 := hf.ok bs a hb hp hq
   have h2 := (hg a (hP bs a hb hp hq)).ok bs b hb h1.2.1 h
   omega
 same := fun bs b bs' hb hp h ha => by
  cases hq : f bs with
  | error er => simp only [hq, bindE] at h; cases h
  | ok a =>
   simp only [hq, bindE] at h
   have h1 := hf.ok bs a hb hp hq
   have h2 := (hg a (hP bs a hb hp hq)).ok bs b hb h1.2.1 h
   simp only [hf.same bs a bs' hb hp hq (ha.mono h2.1), bindE]
   exact (hg a (hP bs a hb hp hq)).same bs b bs' hb h1.2.1 h ha
 cut := fun bs b bs' hb hp h hp' hl ha => by
  cases hq : f bs with
  | error er => simp only [hq, bindE] at h; cases h
  | ok a =>
   simp only [hq, bindE] at h
   have h1 := hf.ok bs a hb hp hq
   rcases Nat.lt_or_ge bs'.length (e a) with c | c
   ·simp only [hf.cut bs a bs' hb hp hq hp' c ha, bindE]
   ·simp only [hf.same bs a bs' hb hp hq (ha.mono c), bindE]
    exact (hg a (hP bs a hb hp hq)).cut bs b bs' hb h1.2.1 h c hl ha
 err := fun bs er hb hp h => by
  cases hq : f bs with
  | error er1 =>
   simp only [hq, bindE] at h
   injection h with h
   subst h
   rcases hf.err bs er1 hb hp hq with r | r | ⟨q, k, r1, r2, r3, r4, r5, r6⟩
   ·exact .inl r
   ·exact .inr (.inl r)
   ·exact .inr (.inr ⟨q, k, r1, r2, r3, by omega, r5, fun bs' ha => by simp only [r6 bs' ha, bindE]⟩)
  | ok a =>
   simp only [hq, bindE] at h
   have h1 := hf.ok bs a hb hp hq
   rcases (hg a (hP bs a hb hp hq)).err bs er hb h1.2.1 h with r | r | ⟨q, k, r1, r2, r3, r4, r5, r6⟩
   ·exact .inl r
   ·exact .inr (.inl r)
   ·exact .inr (.inr ⟨q, k, r1, r2, by omega, by omega, r5, fun bs' ha => by
     simp only [hf.same bs a bs' hb hp hq (ha.mono (by omega)), bindE]
     exact r6 bs' ha⟩)
theorem LocR.peek {p : Nat} (X : List Int → α) (e : α → Nat) (he : ∀ bs, e (X bs) = p) (hX : ∀ bs bs', Ag p bs bs' → X bs' = X bs) : LocR p 0 (fun bs => .ok (X bs)) e where
 ok := fun bs a hb hp h => by injection h with h; subst h; have := he bs; omega
 same := fun bs a bs' hb hp h ha => by
  injection h with h
  subst h
  show Except.ok (X bs') = _
  rw [hX bs bs' (by rw [he bs] at ha; exact ha)]
 cut := fun bs a bs' hb hp h hp' hl ha => by injection h with h; subst h; have := he bs; omega
 err := fun bs er hb hp h => by cases h
theorem LocR.field {p k : Nat} (X : List Int → α) (E : List Int → Int) (e : α → Nat) (he : ∀ bs, e (X bs) = p + k) (hX : ∀ bs bs', Ag (p + k) bs bs' → X bs' = X bs) (hE : ∀ bs bs', Ag (p + k) bs bs' → E bs' = E bs) (hk : (∀ bs, E bs = 0) ∨ k ≤ 5) : LocR p k (fun bs => if p + k ≤ bs.length then (if E bs = 0 then .ok (X bs) else .error (E bs, (p : Int))) else .error (11, (bs.length : Int))) e where
 ok := fun bs a hb hp h => by
  split at h
  ·split at h
   ·injection h with h; subst h; have := he bs; omega
   ·cases h
  ·cases h
 same := fun bs a bs' hb hp h ha => by
  split at h
  ·split at h
   ·rename_i c
    injection h with h; subst h
    rw [he bs] at ha
    have h1 := ha.1
    rw [if_pos h1, hE bs bs' ha, if_pos c, hX bs bs' ha]
   ·cases h
  ·cases h
 cut := fun bs a bs' hb hp h hp' hl ha => by
  split at h
  ·split at h
   ·injection h with h; subst h
    have := he bs
    rw [if_neg (by omega)]
   ·cases h
  ·cases h
 err := fun bs er hb hp h => by
  split at h
  ·rename_i c
   split at h
   ·cases h
   ·rename_i c1
    injection h with h
    subst h
    rcases hk with hk | hk
    ·exact absurd (hk bs) c1
    ·refine .inr (.inr ⟨p, k, rfl, hk, Nat.le_refl _, Nat.le_add_right _ _, c, fun bs' ha => ?_⟩)
     have h1 := ha.1
     rw [if_pos h1, hE bs bs' ha, if_neg c1]
  ·injection h with h
   subst h
   exact .inl rfl
theorem runE_bind {step : Nat → σ → Ex σ} {s0 : σ} (n : Nat) : runE step s0 (n + 1) = bindE (runE step s0 n) (step n) := by
 cases h : runE step s0 n with
 | error e => rw [runE_err h (n + 1) (by omega)]; rfl
 | ok s => rw [runE_next h]; rfl
theorem runE_congr {step step' : Nat → σ → Ex σ} {s0 : σ} : ∀ n : Nat, (∀ q, q < n → ∀ s, step q s = step' q s) → runE step s0 n = runE step' s0 n
 | 0, _ => rfl
 | n + 1, h => by
  rw [runE_bind, runE_bind, runE_congr n (fun q hq s => h q (by omega) s)]
  cases runE step' s0 n with
  | error e => rfl
  | ok s => exact h n (by omega) s
theorem LocR.run {e : Nat → σ → Nat} {M : Nat} (step : List Int → Nat → σ → Ex σ) (s0 : σ) (P : Nat → σ → Prop) (N : Nat) (hP : ∀ n s bs, n < N → Bytes bs → e 0 s0 ≤ bs.length → runE (step bs) s0 n = .ok s → P n s) (hs : ∀ n s, n < N → P n s → LocR (e n s) M (fun bs => step bs n s) (e (n + 1))) : ∀ n, n ≤ N → LocR (e 0 s0) (n * M) (fun bs => runE (step bs) s0 n) (e n)
 | 0, hn => by
  rw [Nat.zero_mul]
  exact LocR.peek (fun _ => s0) _ (fun _ => rfl) (fun _ _ _ => rfl)
 | n + 1, hn => by
  rw [Nat.succ_mul]
  exact ((LocR.run step s0 P N hP hs n (by omega)).bind (P n) (fun bs s hb hp h => hP n s bs (by omega) hb hp h) (fun s hp => hs n s (by omega) hp)).congr (fun bs => runE_bind n)
end
theorem upN_ag {p k : Nat} {bs bs' : List Int} (h : Ag (p + k) bs bs') : ∀ m, m ≤ k → upN bs' p k m = upN bs p k m
 | 0, _ => rfl
 | m + 1, hm => by
  show upN bs' p k m * 256 + bs'.getD (p + (k - 1 - m)) 0 = upN bs p k m * 256 + bs.getD (p + (k - 1 - m)) 0
  rw [upN_ag h m (by omega), h.2 (p + (k - 1 - m)) (by omega)]
theorem takeF_loc {nx k : Nat} (X : List Int → S50) (E : List Int → Int) (hX : ∀ bs bs', Ag (nx + k) bs bs' → X bs' = X bs) (hE : ∀ bs bs', Ag (nx + k) bs bs' → E bs' = E bs) (hk : (∀ bs, E bs = 0) ∨ k ≤ 5) : LocR nx k (fun bs => takeF bs nx k (X bs) (E bs)) (fun s => s.2) :=
 (LocR.field (fun bs => (X bs, nx + k)) E (fun s => s.2) (fun _ => rfl) (fun bs bs' h => by rw [hX bs bs' h]) hE hk).congr (fun bs => rfl)
def listStep (V : Int) (p : Nat) (bs : List Int) (q : Nat) (l : List Int) : Ex (List Int) :=
 if p + q + 1 ≤ bs.length then (if (if bs.getD (p + q) 0 < V then (0 : Int) else 13) = 0 then .ok (l ++ [bs.getD (p + q) 0]) else .error ((if bs.getD (p + q) 0 < V then (0 : Int) else 13), ((p + q : Nat) : Int))) else .error (11, bs.length)
theorem listR_run (bs : List Int) (V : Int) (p : Nat) : ∀ q, listR bs V p q = runE (listStep V p bs) [] q
 | 0 => rfl
 | q + 1 => by
  rw [runE_bind, ← listR_run bs V p q]
  cases h : listR bs V p q with
  | error e => rw [listR_err h (q + 1) (by omega)]; rfl
  | ok l =>
   rw [listR_next h]
   show _ = listStep V p bs q l
   unfold listStep
   by_cases c : bs.getD (p + q) 0 < V
   ·rw [if_pos c, if_pos c, if_pos rfl]
   ·rw [if_neg c, if_neg c, if_neg (show ¬ (13 : Int) = 0 by decide)]
theorem listR_loc (V : Int) (p q : Nat) : LocR p (q * 1) (fun bs => listR bs V p q) (fun _ => p + q) :=
 (LocR.run (e := fun i _ => p + i) (M := 1) (listStep V p) [] (fun _ _ => True) q (fun _ _ _ _ _ _ _ => trivial) (fun i l _ _ =>
  LocR.field (p := p + i) (k := 1) (fun bs => l ++ [bs.getD (p + i) 0]) (fun bs => if bs.getD (p + i) 0 < V then (0 : Int) else 13) (fun _ => p + (i + 1)) (fun _ => by omega)
   (fun bs bs' h => by rw [h.2 (p + i) (by omega)]) (fun bs bs' h => by rw [h.2 (p + i) (by omega)]) (.inr (by omega))) q (Nat.le_refl _)).congr (fun bs => listR_run bs V p q)
theorem takeL_loc (nx : Nat) (W V : Int) (x : S50) (j : Nat) : LocR nx 256 (fun bs => takeL bs nx W V x j) (fun s => s.2) := by
 have h1 := LocR.field (p := nx) (k := 1) (fun bs => bs.getD nx 0) (fun bs => if bs.getD nx 0 = W then (0 : Int) else 15) (fun _ => nx + 1) (fun _ => rfl) (fun bs bs' h => h.2 nx (by omega)) (fun bs bs' h => by rw [h.2 nx (by omega)]) (.inr (by omega))
 have h2 := h1.bind (M2 := 255) (β := S50 × Nat) (g := fun (c : Int) bs => bindE (listR bs V (nx + 1) c.toNat) fun l => Except.ok (setL x j l, nx + 1 + c.toNat)) (e2 := fun s => s.2) (fun c => c ≤ 255) (fun bs a hb hp (h : (if nx + 1 ≤ bs.length then (if (if bs.getD nx 0 = W then (0 : Int) else 15) = 0 then (.ok (bs.getD nx 0) : Ex Int) else .error ((if bs.getD nx 0 = W then (0 : Int) else 15), (nx : Int))) else .error (11, (bs.length : Int))) = .ok a) => by
   split at h
   ·split at h
    ·injection h with h
     subst h
     exact (byte_at hb nx).2
    ·cases h
   ·cases h) (fun c hc => ((listR_loc V (nx + 1) c.toNat).bind (M2 := 0) (g := fun l _ => Except.ok (setL x j l, nx + 1 + c.toNat)) (e2 := fun s => s.2) (fun _ => True) (fun _ _ _ _ _ => trivial) (fun l _ => LocR.peek (fun _ => (setL x j l, nx + 1 + c.toNat)) _ (fun _ => rfl) (fun _ _ _ => rfl))).mono (by omega))
 refine h2.congr fun bs => ?_
 unfold takeL
 split
 ·by_cases c : bs.getD nx 0 = W
  ·rw [if_pos c, if_pos c, if_pos rfl]
   show _ = bindE (listR bs V (nx + 1) (bs.getD nx 0).toNat) _
   cases listR bs V (nx + 1) (bs.getD nx 0).toNat <;> rfl
  ·rw [if_neg c, if_neg c, if_neg (by decide)]
   rfl
 ·rfl
theorem numX_ag {nx : Nat} {x : S50} {bs bs' : List Int} (h : Ag (nx + (tabL.getD x.f0.toNat 0).toNat) bs bs') : numX bs' nx x = numX bs nx x := by
 unfold numX
 rw [upN_ag h _ (Nat.le_refl _)]
theorem tab_le8 (op : Nat) : (tabL.getD op 0).toNat ≤ 8 := by
 rcases op with _ | _ | _ | _ | _ | _ | _ | _ | _ | _ | _ | _ | _ | _ | _ | op <;> first | decide | (simp [tabL])
theorem takeS_loc (G : Int) (fs : List S46) (R V m : Int) (x : S50) (nx : Nat) (pk : PK) (hk : pk ≠ .int → pk ≠ .R → (tabL.getD x.f0.toNat 0).toNat ≤ 5) : LocR nx 256 (fun bs => takeS G fs R V m bs x nx pk) (fun s => s.2) := by
 have var : ∀ i (E : S50 → Int), LocR nx 256 (fun bs => takeF bs nx 1 (setF x i (bs.getD nx 0)) (E (setF x i (bs.getD nx 0)))) (fun s => s.2) := fun i E =>
  (takeF_loc (fun bs => setF x i (bs.getD nx 0)) (fun bs => E (setF x i (bs.getD nx 0))) (fun bs bs' h => by rw [h.2 nx (by omega)]) (fun bs bs' h => by rw [h.2 nx (by omega)]) (.inr (by omega))).mono (by omega)
 have num : ∀ (E : S50 → Int), ((∀ y, E y = 0) ∨ (tabL.getD x.f0.toNat 0).toNat ≤ 5) → LocR nx 256 (fun bs => takeF bs nx (tabL.getD x.f0.toNat 0).toNat (numX bs nx x) (E (numX bs nx x))) (fun s => s.2) := fun E hE =>
  (takeF_loc (fun bs => numX bs nx x) (fun bs => E (numX bs nx x)) (fun bs bs' h => numX_ag h) (fun bs bs' h => by rw [numX_ag h]) (hE.imp (fun h bs => h _) id)).mono (by have := tab_le8 x.f0.toNat; omega)
 cases pk with
 | R => exact var 1 (fun y => partE G fs R V m y .R)
 | S => exact var 2 (fun y => partE G fs R V m y .S)
 | T => exact var 3 (fun y => partE G fs R V m y .T)
 | int => exact num (fun y => partE G fs R V m y .int) (.inl fun _ => rfl)
 | fields => exact num (fun y => partE G fs R V m y .fields) (.inr (hk (by intro h; cases h) (by intro h; cases h)))
 | field => exact num (fun y => partE G fs R V m y .field) (.inr (hk (by intro h; cases h) (by intro h; cases h)))
 | glob => exact num (fun y => partE G fs R V m y .glob) (.inr (hk (by intro h; cases h) (by intro h; cases h)))
 | func => exact num (fun y => partE G fs R V m y .func) (.inr (hk (by intro h; cases h) (by intro h; cases h)))
 | jump => exact num (fun y => partE G fs R V m y .jump) (.inr (hk (by intro h; cases h) (by intro h; cases h)))
 | args => exact takeL_loc nx _ V x 5
 | rets => exact takeL_loc nx _ V x 6
 | vals => exact takeL_loc nx R V x 5
theorem parts_tab (op j : Nat) (pk : PK) (h : (partsOf op)[j]? = some pk) (hp : pk ≠ .int) (hp2 : pk ≠ .R) : (tabL.getD op 0).toNat ≤ 5 := by
 rcases op with _ | _ | op
 ·decide
 ·rcases j with _ | _ | j
  ·simp [partsOf] at h
   exact absurd h.symm hp2
  ·simp [partsOf] at h
   exact absurd h.symm hp
  ·simp [partsOf] at h
 ·rcases op with _ | _ | _ | _ | _ | _ | _ | _ | _ | _ | _ | _ | _ | op <;> first | decide | (simp [tabL])
theorem partsOf_le (op : Nat) : (partsOf op).length ≤ 3 := by
 rcases op with _ | _ | _ | _ | _ | _ | _ | _ | _ | _ | _ | _ | _ | _ | _ | _ | _ | _ | op <;> first | decide | (simp [partsOf])
theorem partsR_loc (G : Int) (fs : List S46) (R V m : Int) (x0 : S50) (nx0 : Nat) (h5 : x0.f5 = []) (h6 : x0.f6 = []) (n : Nat) : LocR nx0 (n * 256) (fun bs => partsR G fs R V m bs x0.f0.toNat x0 nx0 n) (fun s => s.2) :=
 LocR.run (e := fun _ s => s.2) (M := 256) (fun bs j s => match (partsOf x0.f0.toNat)[j]? with | some pk => takeS G fs R V m bs s.1 s.2 pk | none => .ok s) (x0, nx0) (fun _ s => s.1.f0 = x0.f0) n
  (fun j s bs _ hb hp h => (partsR_inv hb h5 h6 hp j s h).1)
  (fun j s _ h0 => by
   cases e : (partsOf x0.f0.toNat)[j]? with
   | none =>
    simp only
    exact (LocR.peek (fun _ => s) (fun s => s.2) (fun _ => rfl) (fun _ _ _ => rfl)).mono (by omega)
   | some pk =>
    simp only
    exact takeS_loc G fs R V m s.1 s.2 pk (fun h1 h2 => by rw [h0]; exact parts_tab _ j pk e h1 h2)) n (Nat.le_refl _)
theorem instrR_loc (G : Int) (fs : List S46) (R V m : Int) (last : Bool) (nx : Nat) (locs : Int) : LocR nx 769 (fun bs => instrR G fs R V m bs last nx locs) (fun t => t.2.1) := by
 have h1 := LocR.field (p := nx) (k := 1) (fun bs => bs.getD nx 0) (fun bs => opE locs (x0Of (bs.getD nx 0)) last) (fun _ => nx + 1) (fun _ => rfl) (fun bs bs' h => h.2 nx (by omega)) (fun bs bs' h => by rw [h.2 nx (by omega)]) (.inr (by omega))
 have h2 := h1.bind (M2 := 768) (β := S50 × Nat × Int) (g := fun (v : Int) bs => bindE (partsR G fs R V m bs v.toNat (x0Of v) (nx + 1) (partsOf v.toNat).length) fun s => Except.ok (s.1, s.2, locs + newL (x0Of v))) (e2 := fun t => t.2.1) (fun _ => True) (fun _ _ _ _ _ => trivial) (fun v _ =>
  ((partsR_loc G fs R V m (x0Of v) (nx + 1) rfl rfl (partsOf v.toNat).length).bind (M2 := 0) (g := fun s _ => Except.ok (s.1, s.2, locs + newL (x0Of v))) (e2 := fun t => t.2.1) (fun _ => True) (fun _ _ _ _ _ => trivial) (fun s _ => LocR.peek (fun _ => (s.1, s.2, locs + newL (x0Of v))) _ (fun _ => rfl) (fun _ _ _ => rfl))).mono (by have := partsOf_le v.toNat; omega))
 refine h2.congr fun bs => ?_
 unfold instrR
 split
 ·split
  ·show _ = bindE (partsR G fs R V m bs (bs.getD nx 0).toNat (x0Of (bs.getD nx 0)) (nx + 1) (partsOf (bs.getD nx 0).toNat).length) _
   cases partsR G fs R V m bs (bs.getD nx 0).toNat (x0Of (bs.getD nx 0)) (nx + 1) (partsOf (bs.getD nx 0).toNat).length <;> rfl
  ·rfl
 ·rfl
theorem codeStep_loc (G : Int) (fs : List S46) (R V m : Int) (k : Nat) (s : Nat × Int × List S50) : LocR s.1 769 (fun bs => codeStep G fs R V m bs k s) (fun t => t.1) := by
 refine ((instrR_loc G fs R V m ((k : Int) == m - 1) s.1 s.2.1).bind (M2 := 0) (g := fun t _ => Except.ok (t.2.1, t.2.2, s.2.2 ++ [t.1])) (e2 := fun t => t.1) (fun _ => True) (fun _ _ _ _ _ => trivial) (fun t _ => LocR.peek (fun _ => (t.2.1, t.2.2, s.2.2 ++ [t.1])) _ (fun _ => rfl) (fun _ _ _ => rfl))).congr fun bs => ?_
 unfold codeStep
 cases instrR G fs R V m bs ((k : Int) == m - 1) s.1 s.2.1 <;> rfl
def funcH (G : Int) (hs : List HV) (zs : List Int) (bs : List Int) (q : Nat) (s : Nat × Int × List (List S50)) : Ex (Nat × Int × List (List S50)) :=
 bindE (runE (codeStep G (fsOf hs) (hs.getD q hv0).R (hs.getD q hv0).V (zs.getD q 0) bs) (s.1, s.2.1, []) (zs.getD q 0).toNat) fun t => .ok (t.1, t.2.1, s.2.2 ++ [t.2.2])
theorem funcH_loc (G : Int) (hs : List HV) (zs : List Int) (hz : ∀ z ∈ zs, z ≤ 4096) (q : Nat) (s : Nat × Int × List (List S50)) : LocR s.1 3149824 (fun bs => funcH G hs zs bs q s) (fun t => t.1) := by
 have hq : (zs.getD q 0).toNat ≤ 4096 := by
  rw [List.getD_eq_getElem?_getD]
  rcases Nat.lt_or_ge q zs.length with g | g
  ·rw [List.getElem?_eq_getElem g]
   have := hz _ (List.getElem_mem g)
   show (zs[q]).toNat ≤ 4096
   omega
  ·rw [List.getElem?_eq_none g]; decide
 exact ((LocR.run (e := fun _ t => t.1) (M := 769) (fun bs => codeStep G (fsOf hs) (hs.getD q hv0).R (hs.getD q hv0).V (zs.getD q 0) bs) (s.1, s.2.1, []) (fun _ _ => True) (zs.getD q 0).toNat (fun _ _ _ _ _ _ _ => trivial) (fun k t _ _ => codeStep_loc G (fsOf hs) _ _ _ k t) _ (Nat.le_refl _)).bind (M2 := 0) (g := fun t _ => Except.ok (t.1, t.2.1, s.2.2 ++ [t.2.2])) (e2 := fun t => t.1) (fun _ => True) (fun _ _ _ _ _ => trivial) (fun t _ => LocR.peek (fun _ => (t.1, t.2.1, s.2.2 ++ [t.2.2])) _ (fun _ => rfl) (fun _ _ _ => rfl))).mono (by omega)
def magicR (bs : List Int) : Ex Unit := if bs.take 6 = magicL.take bs.length then (if 6 ≤ bs.length then .ok () else .error (11, bs.length)) else .error (10, 0)
def globR (bs : List Int) : Ex Int := if 6 + 1 ≤ bs.length then (if globE (bs.getD 6 0) = 0 then .ok (bs.getD 6 0) else .error (globE (bs.getD 6 0), ((6 : Nat) : Int))) else .error (11, bs.length)
def cntR (bs : List Int) : Ex Int := if 7 + 2 ≤ bs.length then (if funcsE (cntOf bs) = 0 then .ok (cntOf bs) else .error (funcsE (cntOf bs), ((7 : Nat) : Int))) else .error (11, bs.length)
def headsR (c : Int) (bs : List Int) : Ex (Int × List HV × List Int) := bindE (runE (headStep bs) 0 c.toNat) fun l => .ok (l, hsOf bs c.toNat, szOf bs c.toNat)
def bodyR (G c : Int) (h : Int × List HV × List Int) (bs : List Int) : Ex (Int × List HV × Nat × Int × List (List S50)) := bindE (runE (funcH G h.2.1 h.2.2 bs) (9 + 5 * c.toNat, h.1, []) c.toNat) fun s => .ok (G, h.2.1, s)
def progR (bs : List Int) : Ex (Int × List HV × Nat × Int × List (List S50)) :=
 bindE (magicR bs) fun _ => bindE (globR bs) fun G => bindE (cntR bs) fun c => bindE (headsR c bs) fun h => bodyR G c h bs
theorem magic_loc : LocR 0 6 magicR (fun _ => 6) where
 ok := fun bs a hb hp h => by
  unfold magicR at h
  split at h
  ·split at h
   ·omega
   ·cases h
  ·cases h
 same := fun bs a bs' hb hp h ha => by
  unfold magicR at h ⊢
  split at h
  ·rename_i hm
   split at h
   ·rename_i hl
    have h1 := ha.1
    rw [ha.take hl, hm, if_pos (by rw [List.take_of_length_le (i := bs.length) (by show 6 ≤ _; exact hl), List.take_of_length_le (i := bs'.length) (by show 6 ≤ _; exact h1)]), if_pos h1]
   ·cases h
  ·cases h
 cut := fun bs a bs' hb hp h hp' hl ha => by
  unfold magicR at h ⊢
  split at h
  ·rename_i hm
   split at h
   ·rename_i hl6
    have h1 := ha.take (by omega)
    rw [List.take_of_length_le (Nat.le_refl _)] at h1
    have h2 : bs'.take 6 = magicL.take bs'.length := by
     have h3 : bs.take bs'.length = (bs.take 6).take bs'.length := by rw [List.take_take, Nat.min_eq_left (by omega)]
     exact (List.take_of_length_le (by omega)).trans (h1.trans (by rw [h3, hm, List.take_take, Nat.min_eq_left (by omega)]))
    rw [if_pos h2, if_neg (by omega)]
   ·cases h
  ·cases h
 err := fun bs er hb hp h => by
  unfold magicR at h
  split at h
  ·split at h
   ·cases h
   ·injection h with h
    exact .inl h.symm
  ·injection h with h
   exact .inr (.inl h.symm)
theorem glob_loc : LocR 6 1 globR (fun _ => 7) :=
 (LocR.field (p := 6) (k := 1) (fun bs => bs.getD 6 0) (fun bs => globE (bs.getD 6 0)) (fun _ => 7) (fun _ => rfl) (fun bs bs' h => h.2 6 (by omega)) (fun bs bs' h => by rw [h.2 6 (by omega)]) (.inr (by omega))).congr fun bs => rfl
theorem cnt_ag {bs bs' : List Int} (h : Ag 9 bs bs') : cntOf bs' = cntOf bs := by unfold cntOf; rw [h.2 7 (by omega), h.2 8 (by omega)]
theorem cnt_loc : LocR 7 2 cntR (fun _ => 9) :=
 (LocR.field (p := 7) (k := 2) cntOf (fun bs => funcsE (cntOf bs)) (fun _ => 9) (fun _ => rfl) (fun bs bs' h => cnt_ag h) (fun bs bs' h => by rw [cnt_ag h]) (.inr (by omega))).congr fun bs => rfl
theorem hv_ag {p : Nat} {bs bs' : List Int} (h : Ag (p + 5) bs bs') : hvOf bs' p = hvOf bs p ∧ hvN bs' p = hvN bs p := by
 unfold hvOf hvN
 rw [h.2 p (by omega), h.2 (p + 1) (by omega), h.2 (p + 2) (by omega), h.2 (p + 3) (by omega), h.2 (p + 4) (by omega)]
 exact ⟨rfl, rfl⟩
theorem headStep_loc (q : Nat) (l : Int) : LocR (9 + 5 * q) 5 (fun bs => headStep bs q l) (fun _ => 9 + 5 * (q + 1)) :=
 (LocR.field (p := 9 + 5 * q) (k := 5) (fun bs => l + (hvOf bs (9 + 5 * q)).V) (fun bs => hvE bs (9 + 5 * q) l) (fun _ => 9 + 5 * (q + 1)) (fun _ => by omega) (fun bs bs' h => by rw [(hv_ag h).1])
  (fun bs bs' h => by unfold hvE; rw [(hv_ag h).1, (hv_ag h).2]) (.inr (by omega))).congr fun bs => rfl
theorem hs_ag {n : Nat} {bs bs' : List Int} (h : Ag (9 + 5 * n) bs bs') : hsOf bs' n = hsOf bs n ∧ szOf bs' n = szOf bs n := by
 unfold hsOf szOf
 constructor
 ·exact List.map_congr_left fun q hq => by
   rw [List.mem_range] at hq
   exact (hv_ag (h.mono (by omega))).1
 ·exact List.map_congr_left fun q hq => by
   rw [List.mem_range] at hq
   exact (hv_ag (h.mono (by omega))).2
theorem heads_loc (c : Int) : LocR 9 (c.toNat * 5) (headsR c) (fun _ => 9 + 5 * c.toNat) :=
 (LocR.run (e := fun q (_ : Int) => 9 + 5 * q) (M := 5) (fun bs q l => headStep bs q l) (0 : Int) (fun _ _ => True) c.toNat (fun _ _ _ _ _ _ _ => trivial) (fun q l _ _ => headStep_loc q l) c.toNat (Nat.le_refl _)).bind (M2 := 0) (g := fun l bs => Except.ok (l, hsOf bs c.toNat, szOf bs c.toNat)) (e2 := fun _ => 9 + 5 * c.toNat) (fun _ => True) (fun _ _ _ _ _ => trivial) (fun l _ =>
  LocR.peek (fun bs => (l, hsOf bs c.toNat, szOf bs c.toNat)) _ (fun _ => rfl) (fun bs bs' h => by rw [(hs_ag h).1, (hs_ag h).2]))
theorem heads_sz {c : Int} {bs : List Int} {h : Int × List HV × List Int} (hb : Bytes bs) (he : headsR c bs = .ok h) : ∀ z ∈ h.2.2, z ≤ 4096 := by
 unfold headsR at he
 cases e : runE (headStep bs) 0 c.toNat with
 | error er => rw [e] at he; cases he
 | ok l =>
  rw [e] at he
  injection he with he
  subst he
  intro z hz
  simp only [szOf, List.mem_map, List.mem_range] at hz
  obtain ⟨q, hq, rfl⟩ := hz
  exact ((heads_run hb _ _ e).2.2 q hq).2
theorem body_loc (G c : Int) (h : Int × List HV × List Int) (hz : ∀ z ∈ h.2.2, z ≤ 4096) : LocR (9 + 5 * c.toNat) (c.toNat * 3149824) (bodyR G c h) (fun r => r.2.2.1) := by
 have h1 := LocR.run (e := fun _ t => t.1) (M := 3149824) (fun bs => funcH G h.2.1 h.2.2 bs) (9 + 5 * c.toNat, h.1, []) (fun _ _ => True) c.toNat (fun _ _ _ _ _ _ _ => trivial) (fun q t _ _ => funcH_loc G h.2.1 h.2.2 hz q t) c.toNat (Nat.le_refl _)
 have h2 := h1.bind (M2 := 0) (g := fun s _ => Except.ok (G, h.2.1, s)) (e2 := fun r => r.2.2.1) (fun _ => True) (fun _ _ _ _ _ => trivial) (fun s _ => LocR.peek (fun _ => (G, h.2.1, s)) _ (fun _ => rfl) (fun _ _ _ => rfl))
 exact (h2.mono (by omega)).congr fun bs => rfl
theorem prog_loc : LocR 0 1000000000000 progR (fun r => r.2.2.1) := by
 refine LocR.mono (M := 6 + (1 + (2 + (327675 + 206423715840)))) ?_ (by omega)
 refine magic_loc.bind (M2 := 1 + (2 + (327675 + 206423715840))) (fun _ => True) (fun _ _ _ _ _ => trivial) (fun _ _ => ?_)
 refine glob_loc.bind (M2 := 2 + (327675 + 206423715840)) (fun _ => True) (fun _ _ _ _ _ => trivial) (fun G _ => ?_)
 refine cnt_loc.bind (M2 := 327675 + 206423715840) (fun c => c ≤ 65535) (fun bs c hb hp h => ?_) (fun c hc => ?_)
 ·unfold cntR at h
  split at h
  ·split at h
   ·rename_i e
    injection h with h
    subst h
    unfold funcsE at e
    by_cases g : 1 ≤ cntOf bs ∧ cntOf bs ≤ 65535
    ·exact g.2
    ·rw [if_neg g] at e; omega
   ·cases h
  ·cases h
 ·exact ((heads_loc c).mono (M' := 327675) (by omega)).bind (M2 := 206423715840) (g := fun h bs => bodyR G c h bs) (e2 := fun r => r.2.2.1) (fun h => ∀ z ∈ h.2.2, z ≤ 4096) (fun bs h hb _ he => heads_sz hb he) (fun h hz => (body_loc G c h hz).mono (by omega))
theorem getD_hs (bs : List Int) (n q : Nat) (h : q < n) : (hsOf bs n).getD q hv0 = hvOf bs (9 + 5 * q) ∧ (szOf bs n).getD q 0 = hvN bs (9 + 5 * q) := by
 unfold hsOf szOf
 rw [List.getD_eq_getElem?_getD, List.getD_eq_getElem?_getD, List.getElem?_map, List.getElem?_map, List.getElem?_range h]
 exact ⟨rfl, rfl⟩
theorem decR_eq (bs : List Int) : decR bs = bindE (progR bs) fun r => if r.2.2.1 = bs.length then .ok (r.1, withCode r.2.1 r.2.2.2.2) else .error (22, r.2.2.1) := by
 unfold decR progR magicR globR cntR
 split
 ·split
  ·split
   ·split
    ·split
     ·split
      ·show _ = bindE (bindE (headsR (cntOf bs) bs) fun h => bodyR (bs.getD 6 0) (cntOf bs) h bs) _
       unfold headsR bodyR
       cases e : runE (headStep bs) 0 (cntOf bs).toNat with
       | error er => rfl
       | ok l =>
        have hc : runE (funcStep (bs.getD 6 0) (fsOf (hsOf bs (cntOf bs).toNat)) bs) (9 + 5 * (cntOf bs).toNat, l, []) (cntOf bs).toNat = runE (funcH (bs.getD 6 0) (hsOf bs (cntOf bs).toNat) (szOf bs (cntOf bs).toNat) bs) (9 + 5 * (cntOf bs).toNat, l, []) (cntOf bs).toNat := runE_congr _ fun q hq s => by
         unfold funcStep funcH
         rw [(getD_hs bs _ q hq).1, (getD_hs bs _ q hq).2]
         cases runE (codeStep (bs.getD 6 0) (fsOf (hsOf bs (cntOf bs).toNat)) (hvOf bs (9 + 5 * q)).R (hvOf bs (9 + 5 * q)).V (hvN bs (9 + 5 * q)) bs) (s.1, s.2.1, []) (hvN bs (9 + 5 * q)).toNat <;> rfl
        simp only [hc, bindE]
        cases runE (funcH (bs.getD 6 0) (hsOf bs (cntOf bs).toNat) (szOf bs (cntOf bs).toNat) bs) (9 + 5 * (cntOf bs).toNat, l, []) (cntOf bs).toNat <;> rfl
      ·rfl
     ·rfl
    ·rfl
   ·rfl
  ·rfl
 ·rfl
theorem decR_ok {bs : List Int} {p : Int × List S46} (h : decR bs = .ok p) : ∃ r, progR bs = .ok r ∧ r.2.2.1 = bs.length ∧ p = (r.1, withCode r.2.1 r.2.2.2.2) := by
 rw [decR_eq] at h
 cases e : progR bs with
 | error er => rw [e] at h; cases h
 | ok r =>
  rw [e] at h
  simp only [bindE] at h
  split at h
  ·rename_i c
   injection h with h
   exact ⟨r, rfl, c, h.symm⟩
  ·cases h
theorem decR_cut {bs bs' : List Int} {p : Int × List S46} (hb : Bytes bs) (h : decR bs = .ok p) (hl : bs'.length < bs.length) (ha : Ag bs'.length bs bs') : decR bs' = .error (11, bs'.length) := by
 obtain ⟨r, e, hr, _⟩ := decR_ok h
 rw [decR_eq, prog_loc.cut bs r bs' hb (Nat.zero_le _) e (Nat.zero_le _) (by omega) ha]
 rfl
theorem decR_trail {bs bs' : List Int} {p : Int × List S46} (hb : Bytes bs) (h : decR bs = .ok p) (hl : bs.length < bs'.length) (ha : Ag bs.length bs bs') : decR bs' = .error (22, bs.length) := by
 obtain ⟨r, e, hr, _⟩ := decR_ok h
 rw [decR_eq, prog_loc.same bs r bs' hb (Nat.zero_le _) e (by rw [hr]; exact ha)]
 show (if r.2.2.1 = bs'.length then _ else _) = _
 rw [if_neg (by omega), hr]
theorem works_ev : Ev (fun k => fuguelaw01_works.f k) true :=
 Ev.of (fun k => fuguelaw01_works.mono k) (show fuguelaw01_works.f 12 = some true by decide +kernel)
theorem copy_ev (xs : List Int) (hl : xs.length ≤ 140737488355328) : Ev (fun k => fugueref00_CopyBytes.f k xs) xs := by
 have gen : ∀ (d i : Nat), xs.length - i = d → i ≤ xs.length → Ev (fun k => fugueref00_CopyBytes.l0 k xs (xs.take i) (i : Int)) xs := by
  intro d
  induction d with
  | zero =>
   intro i hd hi
   refine Ev.step (f := fun _ => some xs) (fun k => by simp only [fugueref00_CopyBytes.l0]; rw [if_neg (by omega), List.take_of_length_le (by omega)]) (Ev.now _)
  | succ d ih =>
   intro i hd hi
   have hx : i < xs.length := by omega
   have e1 : rd xs (i : Int) = xs[i] := rd_get xs i hx
   refine Ev.step (fun k => by simp only [fugueref00_CopyBytes.l0]; rw [if_pos (by omega), if_pos (by omega), if_pos (by rw [List.length_take]; omega), e1, wrap_in (by omega) (by omega), ← List.take_succ_eq_append_getElem hx]) ?_
   exact ih (i + 1) (by omega) (by omega)
 unfold fugueref00_CopyBytes.f
 simpa using gen xs.length 0 (by omega) (by omega)
theorem all_bytes {xs : List Int} (h : Bytes xs) : (xs.all fun x => decide (0 ≤ x ∧ x ≤ 255)) = true := by
 rw [List.all_eq_true]
 intro x hx
 exact decide_eq_true (h x hx)
theorem dec_f {xs : List Int} (h : Bytes xs) : code_Decode.f xs = some (decOut xs) := by
 unfold code_Decode.f
 rw [if_pos (all_bytes h)]
end Go.Proofs.YteonppgdmhakoaaDoor.PC
namespace Go.Proofs.YteonppgdmhakoaaDoor.PC
open Go.RowKit
theorem gTab : Tryd.prog.globalNamed "fugue/code.bytes" = some 0 := by kernel_rfl
theorem gTabType : (Tryd.prog.globals[0]?).map (·.type) = some 127 := by kernel_rfl
theorem gTab127 : Tryd.prog.underlying 127 = some (.array 15 3) := by kernel_rfl
theorem cells127 : Tryd.prog.cellsOf 127 = 15 := by kernel_rfl
theorem cellsOf3 : Tryd.prog.cellsOf 3 = 1 := by kernel_rfl
theorem tab_laid {W : World} (h : laidMetH Tryd.prog [("fugue/code.bytes", Rows.laid_fugue_code_bytes)] W) : Tab W := by
 have ht : Lib.TabIs Tryd.prog W "fugue/code.bytes" .i64 tabL := Lib.tabIs_of_head (rest := []) gTab gTabType gTab127 Tryd.underlying3 cellsOf3 cells127 h
 exact fun i hi => ht.cell gTab i hi
noncomputable def laidWorld (os : Os) : World :=
 { World.holding Tryd.prog os ⟨#[], #[], []⟩ with heap := (World.holding Tryd.prog os ⟨#[], #[], []⟩).heap.modify 0 fun
   | .cells _ t frozen => .cells #[.int .i64 0, .int .i64 8, .int .i64 0, .int .i64 0, .int .i64 0, .int .i64 0, .int .i64 1, .int .i64 1, .int .i64 1, .int .i64 1, .int .i64 1, .int .i64 2, .int .i64 0, .int .i64 2, .int .i64 2] t frozen
   | o => o }
theorem weights_at {H : Type} {ts : List TypeId} {ds : List (DataW H)} (h : (DataW.weightsEach Tryd.prog ts ds).all (· ≤ reachBytes) = true) {j : Nat} {t : TypeId} {d : DataW H} (ht : ts[j]? = some t) (hd : ds[j]? = some d) : ∀ n ∈ d.weights Tryd.prog t, n ≤ reachBytes := fun n hn => by
 have h1 := DataW.weights_mem_each ht hd n hn
 rw [List.all_eq_true] at h
 simpa using h n h1
end Go.Proofs.YteonppgdmhakoaaDoor.PC
namespace Go.Proofs.YteonppgdmhakoaaDoor.Open
open Go.RowKit Go.Deep Go.Proofs.YteonppgdmhakoaaDoorW.PrintWords
set_option linter.unusedVariables false
set_option linter.unusedSimpArgs false
structure Rd (P : Program) (t : TypeId) {α : Type} (d : Kd α) (ok : α → Prop) : Prop where
 sz : P.cellsOf t = d.sz
 read : ∀ {H : Type} {enc : TypeId × Value → H} {w : World} {fuel : Nat} {cs : List Value} {x : DataW H × List MemPlace}, DataW.trod enc P w 0 (fun _ => true) true fuel t cs = some x → (∀ n ∈ x.1.weights P t, n ≤ reachBytes) → ∃ a, d.K w a cs ∧ ok a
theorem rd_int {P : Program} {t : TypeId} {k : IntKind} (ht : P.underlying t = some (.int k)) (hs : P.cellsOf t = 1) : Rd P t (Kd.int k) (fun a => (Lit.int k a).wf = true) :=
 ⟨hs, fun {H enc w fuel cs x} h _ => by
  obtain ⟨a, h1, rfl, h2⟩ := DataW.trod_int ht h
  exact ⟨a, h1, h2⟩⟩
theorem mem_all {H : Type} {P : Program} {e : TypeId} : ∀ {l : List (DataW H)} {d : DataW H}, d ∈ l → ∀ n ∈ d.weights P e, n ∈ DataW.weightsAll P e l
 | d' :: l, d, hd, n, hn => by
  unfold DataW.weightsAll
  rcases List.mem_cons.1 hd with rfl | hd
  ·exact List.mem_append.2 (.inl hn)
  ·exact List.mem_append.2 (.inr (mem_all hd n hn))
theorem rd_slice {P : Program} {t e : TypeId} {α : Type} {d : Kd α} {ok : α → Prop} [Inhabited α] (ht : P.underlying t = some (.slice e)) (hs : P.cellsOf t = 1) (he : Rd P e d ok) :
  Rd P t (Kd.slice e d) (fun xs => xs.length * P.bytesOf e ≤ 140737488351232 ∧ ∀ a ∈ xs, ok a) :=
 ⟨hs, fun {H enc w fuel cs x} h hw => by
  rcases open_slice ht h with ⟨rfl, rfl⟩ | ⟨a, len, cap, m, n, D, Pl, rfl, _, hl, hm, hmm, rfl, hel⟩
  ·exact ⟨[], ⟨none, 0, rfl, Nat.le_refl _, Kd.C_nil _ _⟩, by simp, by simp⟩
  ·have hml : len ≤ m := by rw [hmm]; simp; exact hl
   have hch : ∀ i, i < len → ∃ y : α, (∃ c, c.length = d.sz ∧ d.K w y c ∧ ∀ j u, c[j]? = some u → w.cell? (a.add (i * d.sz + j)) = some u) ∧ ok y := by
    intro i hi
    obtain ⟨cs', h1, h2⟩ := hel i (by omega)
    obtain ⟨_, hcl, hcell⟩ := World.cells?_some h1
    have hD : D i ∈ (List.range len).map D := List.mem_map.2 ⟨i, List.mem_range.2 hi, rfl⟩
    obtain ⟨y, hK, hok⟩ := he.read h2 (fun k hk => hw k (by
     unfold DataW.weights
     rw [ht]
     exact List.mem_cons_of_mem _ (List.mem_append.2 (.inl (mem_all hD k hk)))))
    refine ⟨y, ⟨cs', by rw [hcl, he.sz], hK, fun j u hu => ?_⟩, hok⟩
    have hj : j < cs'.length := (List.getElem?_eq_some_iff.1 hu).1
    have := hcell j (by omega)
    rw [hu, Go.Deep.add_add, he.sz] at this
    exact this
   obtain ⟨f, hf⟩ := choose_lt hch
   have hlen : ((List.range len).map f).length = len := by simp
   refine ⟨(List.range len).map f, ⟨some a, cap, by rw [hlen], by rw [hlen]; exact hl, rfl, by rw [hlen]; unfold maxLen at hm; omega, fun _ => ⟨a, rfl, fun j p hj => ?_⟩⟩, ?_, ?_⟩
   ·rw [List.getElem?_map] at hj
    obtain ⟨i, hi, rfl⟩ := Option.map_eq_some_iff.1 hj
    have h1 := List.getElem?_eq_some_iff.1 hi
    simp only [List.getElem_range, List.length_range] at h1
    obtain ⟨h2, rfl⟩ := h1
    exact (hf j h2).1
   ·rw [hlen]
    have := hw ((len + (m - len)) * P.bytesOf e) (by
     unfold DataW.weights
     rw [ht]
     simp)
    have h3 : len * P.bytesOf e ≤ (len + (m - len)) * P.bytesOf e := Nat.mul_le_mul_right _ (by omega)
    unfold reachBytes at this
    omega
   ·intro y hy
    obtain ⟨i, hi, rfl⟩ := List.mem_map.1 hy
    exact (hf i (List.mem_range.1 hi)).2⟩
structure RdF (P : Program) (fs : List Field) (off : Nat) {α : Type} (d : Kd α) (ok : α → Prop) : Prop where
 read : ∀ {H : Type} {enc : TypeId × Value → H} {w : World} {fuel : Nat} {cs : List Value} {xs : List (DataW H × List MemPlace)}, (fs.mapM fun f => DataW.trod enc P w 0 (fun _ => true) true fuel f.type ((cs.drop f.offset).take (P.cellsOf f.type))) = some xs →
  (∀ n ∈ DataW.weightsEach P (fs.map (·.type)) (xs.map (·.1)), n ≤ reachBytes) → ∃ a, d.K w a ((cs.drop off).take d.sz) ∧ ok a
theorem rdf_one {P : Program} {f : Field} {off : Nat} {α : Type} {d : Kd α} {ok : α → Prop} (ho : f.offset = off) (hf : Rd P f.type d ok) : RdF P [f] off d ok := by
 constructor
 intro H enc w fuel cs xs h hw
 subst ho
 simp only [List.mapM_cons, List.mapM_nil] at h
 obtain ⟨x, hx, h⟩ := Option.bind_eq_some_iff.1 h
 simp at h
 subst h
 obtain ⟨a, hK, hok⟩ := hf.read hx (fun n hn => hw n (by simp [DataW.weightsEach]; exact hn))
 rw [hf.sz] at hK
 exact ⟨a, hK, hok⟩
theorem rdf_cons {P : Program} {f : Field} {fs : List Field} {off : Nat} {α β : Type} {d : Kd α} {d' : Kd β} {ok : α → Prop} {ok' : β → Prop} (ho : f.offset = off) (hf : Rd P f.type d ok) (hfs : RdF P fs (off + d.sz) d' ok') : RdF P (f :: fs) off (Kd.pair d d') (fun x => ok x.1 ∧ ok' x.2) := by
 constructor
 intro H enc w fuel cs xs h hw
 subst ho
 simp only [List.mapM_cons] at h
 obtain ⟨x, hx, h⟩ := Option.bind_eq_some_iff.1 h
 obtain ⟨ys, hys, h⟩ := Option.bind_eq_some_iff.1 h
 simp at h
 subst h
 obtain ⟨a, hK, hok⟩ := hf.read hx (fun n hn => hw n (by simp [DataW.weightsEach]; exact .inl hn))
 obtain ⟨b, hK', hok'⟩ := hfs.read hys (fun n hn => hw n (by simp only [List.map_cons, DataW.weightsEach]; exact List.mem_append.2 (.inr hn)))
 rw [hf.sz] at hK
 refine ⟨(a, b), ⟨_, _, ?_, hK, hK'⟩, hok, hok'⟩
 show List.take (d.sz + d'.sz) _ = _
 rw [List.take_add, List.drop_drop]
theorem rd_struct {P : Program} {t : TypeId} {fs : Array Field} {α β : Type} {d : Kd α} {ok : α → Prop} {f : β → α} (g : α → β) (hfg : ∀ y, f (g y) = y) (ht : P.underlying t = some (.struct fs)) (hs : P.cellsOf t = d.sz) (h : RdF P fs.toList 0 d ok) : Rd P t (Kd.iso d f) (fun x => ok (f x)) :=
 ⟨hs, fun {H enc w fuel cs x} hx hw => by
  cases fuel with
  | zero => simp [DataW.trod] at hx
  | succ n =>
   unfold DataW.trod at hx
   rw [ht] at hx
   simp only at hx
   split at hx
   ·rename_i hl
    obtain ⟨xs, hxs, he⟩ := Option.map_eq_some_iff.1 hx
    subst he
    obtain ⟨a, hK, hok⟩ := h.read hxs (fun k hk => hw k (by unfold DataW.weights; rw [ht]; exact hk))
    refine ⟨g a, ?_, by rw [hfg]; exact hok⟩
    show d.K w (f (g a)) cs
    rw [hfg]
    rwa [List.drop_zero, List.take_of_length_le (by omega)] at hK
   ·cases hx⟩
end Go.Proofs.YteonppgdmhakoaaDoor.Open
namespace Go.Proofs.YteonppgdmhakoaaDoor.PC
open Go.RowKit Go.Proofs.YteonppgdmhakoaaDoorW.PrintWords Go.Proofs.YteonppgdmhakoaaDoor.Open
set_option linter.unusedVariables false
instance : Inhabited S50 := ⟨z50⟩
instance : Inhabited S46 := ⟨z46⟩
def Wf (a : Int) : Prop := (Lit.int .i64 a).wf = true
def Wb (a : Int) : Prop := (Lit.int .u8 a).wf = true
theorem bytes5_ : Tryd.prog.bytesOf 5 = 1 := by kernel_rfl
theorem bytes3_ : Tryd.prog.bytesOf 3 = 8 := by kernel_rfl
theorem bytes46_ : Tryd.prog.bytesOf 46 = 48 := by kernel_rfl
theorem bytes50_ : Tryd.prog.bytesOf 50 = 88 := by kernel_rfl
theorem rd3 : Rd Tryd.prog 3 (Kd.int .i64) Wf := rd_int Tryd.underlying3 (by kernel_rfl)
theorem rd5 : Rd Tryd.prog 5 (Kd.int .u8) Wb := rd_int Tryd.underlying5 (by kernel_rfl)
def Ok33 (xs : List Int) : Prop := xs.length * Tryd.prog.bytesOf 5 ≤ 140737488351232 ∧ ∀ a ∈ xs, Wb a
theorem rd33 : Rd Tryd.prog 33 (Kd.slice 5 (Kd.int .u8)) Ok33 := rd_slice Tryd.underlying33 (by kernel_rfl) rd5
theorem ok33 {xs : List Int} (h : Ok33 xs) : xs.length ≤ 140737488351232 ∧ Bytes xs := by
 obtain ⟨h1, h2⟩ := h
 rw [bytes5_] at h1
 refine ⟨by omega, fun x hx => ?_⟩
 have h3 : (decide ((0 : Int) ≤ x) && decide (x ≤ 255)) = true := h2 x hx
 rw [Bool.and_eq_true, decide_eq_true_eq, decide_eq_true_eq] at h3
 exact h3
set_option maxRecDepth 100000 in
theorem open33 {r : Reach} {W : World} {b : Nat} {v : Value} {xs : List Int} (ov : Value.okWide Tryd.prog W r b 33 v) (h : (Kd.slice 5 (Kd.int .u8)).K W xs v.cells.toList) : ∃ A c, v = .slice A xs.length c ∧ xs.length ≤ c ∧ Kd.C (Kd.int .u8) W A xs.length xs := by
 obtain ⟨a, l, c, rfl⟩ := Go.WideShapes.okWide_slice Tryd.underlying33 ov
 obtain ⟨A, c', h1, h2, h3⟩ := h
 cases h1
 exact ⟨_, _, rfl, h2, h3⟩
def Ok48 (xs : List Int) : Prop := xs.length * Tryd.prog.bytesOf 3 ≤ 140737488351232 ∧ ∀ a ∈ xs, Wf a
theorem rd48 : Rd Tryd.prog 48 (Kd.slice 3 (Kd.int .i64)) Ok48 := rd_slice Tryd.underlying48 (by kernel_rfl) rd3
def Ok50 (x : S50) : Prop := Wf x.f0 ∧ Wf x.f1 ∧ Wf x.f2 ∧ Wf x.f3 ∧ Wf x.f4 ∧ Ok48 x.f5 ∧ Ok48 x.f6
theorem rd50 : Rd Tryd.prog 50 k50 Ok50 := by
 refine rd_struct (ok := fun p : Int × Int × Int × Int × Int × List Int × List Int => Wf p.1 ∧ Wf p.2.1 ∧ Wf p.2.2.1 ∧ Wf p.2.2.2.1 ∧ Wf p.2.2.2.2.1 ∧ Ok48 p.2.2.2.2.2.1 ∧ Ok48 p.2.2.2.2.2.2) (d := Kd.pair (Kd.int .i64) (Kd.pair (Kd.int .i64) (Kd.pair (Kd.int .i64) (Kd.pair (Kd.int .i64) (Kd.pair (Kd.int .i64) (Kd.pair (Kd.slice 3 (Kd.int .i64)) (Kd.slice 3 (Kd.int .i64)))))))) (f := fun x : S50 => (x.f0, x.f1, x.f2, x.f3, x.f4, x.f5, x.f6)) (fun a => (⟨a.1, a.2.1, a.2.2.1, a.2.2.2.1, a.2.2.2.2.1, a.2.2.2.2.2.1, a.2.2.2.2.2.2⟩ : S50)) (fun y => rfl) Tryd.underlying50 (by kernel_rfl) ?_
 refine rdf_cons (ok := Wf) (ok' := fun p : Int × Int × Int × Int × List Int × List Int => Wf p.1 ∧ Wf p.2.1 ∧ Wf p.2.2.1 ∧ Wf p.2.2.2.1 ∧ Ok48 p.2.2.2.2.1 ∧ Ok48 p.2.2.2.2.2) rfl rd3 ?_
 refine rdf_cons (ok := Wf) (ok' := fun p : Int × Int × Int × List Int × List Int => Wf p.1 ∧ Wf p.2.1 ∧ Wf p.2.2.1 ∧ Ok48 p.2.2.2.1 ∧ Ok48 p.2.2.2.2) rfl rd3 ?_
 refine rdf_cons (ok := Wf) (ok' := fun p : Int × Int × List Int × List Int => Wf p.1 ∧ Wf p.2.1 ∧ Ok48 p.2.2.1 ∧ Ok48 p.2.2.2) rfl rd3 ?_
 refine rdf_cons (ok := Wf) (ok' := fun p : Int × List Int × List Int => Wf p.1 ∧ Ok48 p.2.1 ∧ Ok48 p.2.2) rfl rd3 ?_
 refine rdf_cons (ok := Wf) (ok' := fun p : List Int × List Int => Ok48 p.1 ∧ Ok48 p.2) rfl rd3 ?_
 refine rdf_cons (ok := Ok48) (ok' := Ok48) rfl rd48 ?_
 exact rdf_one rfl rd48
def Ok44 (xs : List S50) : Prop := xs.length * Tryd.prog.bytesOf 50 ≤ 140737488351232 ∧ ∀ a ∈ xs, Ok50 a
theorem rd44 : Rd Tryd.prog 44 (Kd.slice 50 k50) Ok44 := rd_slice Tryd.underlying44 (by kernel_rfl) rd50
def Ok46 (x : S46) : Prop := Wf x.f0 ∧ Wf x.f1 ∧ Wf x.f2 ∧ Ok44 x.f3
theorem rd46 : Rd Tryd.prog 46 k46 Ok46 := by
 refine rd_struct (ok := fun p : Int × Int × Int × List S50 => Wf p.1 ∧ Wf p.2.1 ∧ Wf p.2.2.1 ∧ Ok44 p.2.2.2) (d := Kd.pair (Kd.int .i64) (Kd.pair (Kd.int .i64) (Kd.pair (Kd.int .i64) (Kd.slice 50 k50)))) (f := fun x : S46 => (x.f0, x.f1, x.f2, x.f3)) (fun a => (⟨a.1, a.2.1, a.2.2.1, a.2.2.2⟩ : S46)) (fun y => rfl) Tryd.underlying46 (by kernel_rfl) ?_
 refine rdf_cons (ok := Wf) (ok' := fun p : Int × Int × List S50 => Wf p.1 ∧ Wf p.2.1 ∧ Ok44 p.2.2) rfl rd3 ?_
 refine rdf_cons (ok := Wf) (ok' := fun p : Int × List S50 => Wf p.1 ∧ Ok44 p.2) rfl rd3 ?_
 refine rdf_cons (ok := Wf) (ok' := Ok44) rfl rd3 ?_
 exact rdf_one rfl rd44
def Ok22 (xs : List S46) : Prop := xs.length * Tryd.prog.bytesOf 46 ≤ 140737488351232 ∧ ∀ a ∈ xs, Ok46 a
theorem rd22 : Rd Tryd.prog 22 (Kd.slice 46 k46) Ok22 := rd_slice Tryd.underlying22 (by kernel_rfl) rd46
def Ok24 (x : S24) : Prop := Wf x.f0 ∧ Ok22 x.f1
theorem rd24 : Rd Tryd.prog 24 k24 Ok24 := by
 refine rd_struct (ok := fun p : Int × List S46 => Wf p.1 ∧ Ok22 p.2) (d := Kd.pair (Kd.int .i64) (Kd.slice 46 k46)) (f := fun x : S24 => (x.f0, x.f1)) (fun a => (⟨a.1, a.2⟩ : S24)) (fun y => rfl) Tryd.underlying24 (by kernel_rfl) ?_
 refine rdf_cons (ok := Wf) (ok' := Ok22) rfl rd3 ?_
 exact rdf_one rfl rd22
set_option maxRecDepth 100000 in
theorem open24 {r : Reach} {W : World} {b : Nat} {v : Value} {x : S24} (ov : Value.okWide Tryd.prog W r b 24 v) (h : k24.K W x v.cells.toList) : ∃ A c, v = .agg #[.int .i64 x.f0, .slice A x.f1.length c] ∧ x.f1.length ≤ c ∧ Kd.C k46 W A x.f1.length x.f1 := by
 obtain ⟨cs, rfl, _⟩ := Go.WideShapes.okWide_struct Tryd.underlying24 ov
 obtain ⟨A1, c1, hcs, l1, g1⟩ := k24_open h
 obtain rfl : cs = #[.int .i64 x.f0, .slice A1 x.f1.length c1] := by cases cs; exact congrArg List.toArray hcs
 exact ⟨A1, c1, rfl, l1, g1⟩
end Go.Proofs.YteonppgdmhakoaaDoor.PC
namespace Go.Proofs.YteonppgdmhakoaaDoor.PC
open Go.RowKit Go.Proofs.YteonppgdmhakoaaDoorW.PrintWords Go.Proofs.YteonppgdmhakoaaDoorW.PrintLast Go.Proofs.YteonppgdmhakoaaDoorW.PrintMore
set_option linter.unusedVariables false
set_option linter.unusedSimpArgs false
instance decEq50 (a b : S50) : Decidable (a = b) := decidable_of_iff (a.f0 = b.f0 ∧ a.f1 = b.f1 ∧ a.f2 = b.f2 ∧ a.f3 = b.f3 ∧ a.f4 = b.f4 ∧ a.f5 = b.f5 ∧ a.f6 = b.f6) (by cases a; cases b; simp)
instance decEq46 (a b : S46) : Decidable (a = b) := decidable_of_iff (a.f0 = b.f0 ∧ a.f1 = b.f1 ∧ a.f2 = b.f2 ∧ a.f3 = b.f3) (by cases a; cases b; simp)
theorem rd50_get (xs : List S50) (i : Nat) (h : i < xs.length) : rd_T50 xs (i : Int) = xs[i] := by unfold rd_T50; rw [Int.toNat_natCast]; exact getD50 xs i h
theorem rd46_get (xs : List S46) (i : Nat) (h : i < xs.length) : rd_T46 xs (i : Int) = xs[i] := by unfold rd_T46; rw [Int.toNat_natCast]; exact getD46 xs i h
theorem copyints_ev (xs : List Int) (hl : xs.length ≤ 17592186044416) : Ev (fun k => fugueref00_CopyInts.f k xs) xs := by
 have gen : ∀ (d i : Nat), xs.length - i = d → i ≤ xs.length → Ev (fun k => fugueref00_CopyInts.l0 k xs (xs.take i) (i : Int)) xs := by
  intro d
  induction d with
  | zero =>
   intro i hd hi
   refine Ev.step (f := fun _ => some xs) (fun k => by simp only [fugueref00_CopyInts.l0]; rw [if_neg (by omega), List.take_of_length_le (by omega)]) (Ev.now _)
  | succ d ih =>
   intro i hd hi
   have hx : i < xs.length := by omega
   have e1 : rd xs (i : Int) = xs[i] := rd_get xs i hx
   refine Ev.step (fun k => by simp only [fugueref00_CopyInts.l0]; rw [if_pos (by omega), if_pos (by omega), if_pos (by rw [List.length_take]; omega), e1, wrap_in (by omega) (by omega), ← List.take_succ_eq_append_getElem hx]) ?_
   exact ih (i + 1) (by omega) (by omega)
 unfold fugueref00_CopyInts.f
 simpa using gen xs.length 0 (by omega) (by omega)
theorem ok48_len {xs : List Int} (h : Ok48 xs) : xs.length ≤ 17592186044416 := by
 have := h.1
 rw [bytes3_] at this
 omega
theorem copycode_ev (xs : List S50) (h : Ok44 xs) : Ev (fun k => fugueref00_CopyCode.f k xs) xs := by
 have hl : xs.length ≤ 1599289640401 := by have := h.1; rw [bytes50_] at this; omega
 have gen : ∀ (d i : Nat), xs.length - i = d → i ≤ xs.length → Ev (fun k => fugueref00_CopyCode.l0 k xs (xs.take i) (i : Int)) xs := by
  intro d
  induction d with
  | zero =>
   intro i hd hi
   refine Ev.step (f := fun _ => some xs) (fun k => by simp only [fugueref00_CopyCode.l0]; rw [if_neg (by omega), List.take_of_length_le (by omega)]) (Ev.now _)
  | succ d ih =>
   intro i hd hi
   have hx : i < xs.length := by omega
   have e1 : rd_T50 xs (i : Int) = xs[i] := rd50_get xs i hx
   obtain ⟨_, _, _, _, _, h5, h6⟩ := h.2 _ (List.getElem_mem hx)
   refine Ev.step (fun k => by simp only [fugueref00_CopyCode.l0]; rw [if_pos (by omega), if_pos (by omega), e1, wrap_in (by omega) (by omega)]) ?_
   refine Ev.bind (a := (xs[i].f0, xs[i].f1, xs[i].f2, xs[i].f3, xs[i].f4, xs[i].f5, xs[i].f6)) ?_ ?_
   ·unfold fugueref00_CopyInstr.f
    exact Ev.bind (copyints_ev _ (ok48_len h5)) (Ev.bind (copyints_ev _ (ok48_len h6)) (Ev.now _))
   ·have e : (xs.take i).length < 1599289640401 := by rw [List.length_take]; omega
    simp only [if_pos e]
    rw [show (⟨xs[i].f0, xs[i].f1, xs[i].f2, xs[i].f3, xs[i].f4, xs[i].f5, xs[i].f6⟩ : S50) = xs[i] from rfl, ← List.take_succ_eq_append_getElem hx]
    exact ih (i + 1) (by omega) (by omega)
 unfold fugueref00_CopyCode.f
 simpa using gen xs.length 0 (by omega) (by omega)
theorem copyfuncs_ev (xs : List S46) (h : Ok22 xs) : Ev (fun k => fugueref00_CopyFuncs.f k xs) xs := by
 have hl : xs.length ≤ 2932031007402 := by have := h.1; rw [bytes46_] at this; omega
 have gen : ∀ (d i : Nat), xs.length - i = d → i ≤ xs.length → Ev (fun k => fugueref00_CopyFuncs.l0 k xs (xs.take i) (i : Int)) xs := by
  intro d
  induction d with
  | zero =>
   intro i hd hi
   refine Ev.step (f := fun _ => some xs) (fun k => by simp only [fugueref00_CopyFuncs.l0]; rw [if_neg (by omega), List.take_of_length_le (by omega)]) (Ev.now _)
  | succ d ih =>
   intro i hd hi
   have hx : i < xs.length := by omega
   have e1 : rd_T46 xs (i : Int) = xs[i] := rd46_get xs i hx
   obtain ⟨_, _, _, h3⟩ := h.2 _ (List.getElem_mem hx)
   refine Ev.step (fun k => by simp only [fugueref00_CopyFuncs.l0]; rw [if_pos (by omega), if_pos (by omega), e1, wrap_in (by omega) (by omega)]) ?_
   refine Ev.bind (a := (xs[i].f0, xs[i].f1, xs[i].f2, xs[i].f3)) ?_ ?_
   ·unfold fugueref00_CopyFunc.f
    exact Ev.bind (copycode_ev _ h3) (Ev.now _)
   ·have e : (xs.take i).length < 2932031007402 := by rw [List.length_take]; omega
    simp only [if_pos e]
    rw [show (⟨xs[i].f0, xs[i].f1, xs[i].f2, xs[i].f3⟩ : S46) = xs[i] from rfl, ← List.take_succ_eq_append_getElem hx]
    exact ih (i + 1) (by omega) (by omega)
 unfold fugueref00_CopyFuncs.f
 simpa using gen xs.length 0 (by omega) (by omega)
theorem copyprog_ev (G : Int) (fs : List S46) (h : Ok22 fs) : Ev (fun k => fugueref00_CopyProgram.f k G fs) (G, fs) := by
 unfold fugueref00_CopyProgram.f
 exact Ev.bind (copyfuncs_ev fs h) (Ev.now _)
def At (bs : List Int) (p : Nat) (l : List Int) : Prop := l <+: bs.drop p
theorem At.nil (bs : List Int) (p : Nat) : At bs p [] := ⟨_, rfl⟩
theorem at_append {bs : List Int} {p : Nat} {l m : List Int} : At bs p (l ++ m) ↔ At bs p l ∧ At bs (p + l.length) m := by
 constructor
 ·rintro ⟨t, h⟩
  refine ⟨⟨m ++ t, by rw [← h, List.append_assoc]⟩, ⟨t, ?_⟩⟩
  rw [← List.drop_drop, ← h, List.append_assoc, List.drop_left]
 ·rintro ⟨⟨t, h⟩, ⟨u, h2⟩⟩
  refine ⟨u, ?_⟩
  rw [← List.drop_drop, ← h, List.drop_left] at h2
  rw [List.append_assoc, h2, h]
theorem at_cons {bs : List Int} {p : Nat} {a : Int} {l : List Int} : At bs p (a :: l) ↔ p + 1 ≤ bs.length ∧ bs.getD p 0 = a ∧ At bs (p + 1) l := by
 constructor
 ·rintro ⟨t, h⟩
  have hl : p < bs.length := by
   rcases Nat.lt_or_ge p bs.length with g | g
   ·exact g
   ·rw [List.drop_eq_nil_of_le g] at h; cases h
  rw [List.drop_eq_getElem_cons hl, List.cons_append] at h
  injection h with h1 h2
  refine ⟨hl, ?_, ⟨t, h2⟩⟩
  rw [List.getD_eq_getElem?_getD, List.getElem?_eq_getElem hl, h1]; rfl
 ·rintro ⟨hl, h1, ⟨t, h2⟩⟩
  refine ⟨t, ?_⟩
  rw [List.getD_eq_getElem?_getD, List.getElem?_eq_getElem (by omega)] at h1
  rw [List.drop_eq_getElem_cons (by omega : p < bs.length), List.cons_append, h2]
  rw [show bs[p] = a from h1]
theorem At.len {bs : List Int} {p : Nat} {l : List Int} (h : At bs p l) (hp : p ≤ bs.length) : p + l.length ≤ bs.length := by
 obtain ⟨t, h⟩ := h
 have := congrArg List.length h
 rw [List.length_append, List.length_drop] at this
 omega
theorem at_all {bs l : List Int} (h : At bs 0 l) (hl : l.length = bs.length) : l = bs := by
 obtain ⟨t, h⟩ := h
 rw [List.drop_zero] at h
 have := congrArg List.length h
 rw [List.length_append] at this
 have ht : t = [] := List.eq_nil_of_length_eq_zero (by omega)
 rw [ht, List.append_nil] at h
 exact h
theorem at_self (bs : List Int) : At bs 0 bs := ⟨[], by rw [List.append_nil, List.drop_zero]⟩
theorem at_snoc {bs : List Int} {p : Nat} {l : List Int} {a : Int} : At bs p (l ++ [a]) ↔ At bs p l ∧ p + l.length + 1 ≤ bs.length ∧ bs.getD (p + l.length) 0 = a := by
 rw [at_append, at_cons]
 exact ⟨fun h => ⟨h.1, h.2.1, h.2.2.1⟩, fun h => ⟨h.1, h.2.1, h.2.2, At.nil _ _⟩⟩
theorem byteI_id {x : Int} (h0 : 0 ≤ x) (h1 : x ≤ 255) : byteI x = x := by unfold byteI; omega
theorem varE_ok {V v : Int} : varE V v = 0 ↔ 0 ≤ v ∧ v < V := by
 unfold varE
 split
 ·rename_i h; exact ⟨fun _ => h, fun _ => rfl⟩
 ·rename_i h; exact ⟨fun e => by omega, fun e => absurd e h⟩
theorem numE_ok {lo E er v : Int} (he : er ≠ 0) : numE lo E er v = 0 ↔ lo ≤ v ∧ v < E := by
 unfold numE
 split
 ·rename_i h; exact ⟨fun _ => h, fun _ => rfl⟩
 ·rename_i h; exact ⟨fun e => absurd e he, fun e => absurd e h⟩
theorem takeF_iff {bs : List Int} {nx k : Nat} {x' : S50} {er : Int} {s : S50 × Nat} : takeF bs nx k x' er = .ok s ↔ nx + k ≤ bs.length ∧ er = 0 ∧ s = (x', nx + k) := by
 unfold takeF
 constructor
 ·intro h
  split at h
  ·rename_i c
   split at h
   ·rename_i e
    injection h with h
    exact ⟨c, e, h.symm⟩
   ·cases h
  ·cases h
 ·rintro ⟨h1, h2, rfl⟩
  rw [if_pos h1, if_pos h2]
theorem var_iff {bs : List Int} (hb : Bytes bs) {nx i : Nat} {y : S50} {V : Int} (hV : V ≤ 255) {s : S50 × Nat} : takeF bs nx 1 (setF y i (bs.getD nx 0)) (varE V (bs.getD nx 0)) = .ok s ↔ ∃ b, s = (setF y i b, nx + 1) ∧ varE V b = 0 ∧ At bs nx [byteI b] := by
 rw [takeF_iff]
 constructor
 ·rintro ⟨h1, h2, rfl⟩
  have hy := byte_at hb nx
  exact ⟨bs.getD nx 0, rfl, h2, at_cons.2 ⟨h1, (byteI_id hy.1 hy.2).symm, At.nil _ _⟩⟩
 ·rintro ⟨b, rfl, h2, h3⟩
  obtain ⟨h4, h5, _⟩ := at_cons.1 h3
  have := varE_ok.1 h2
  rw [byteI_id (by omega) (by omega)] at h5
  rw [h5]
  exact ⟨h4, h2, rfl⟩
theorem num_bytes1 (bs : List Int) (hb : Bytes bs) (p : Nat) (v : Int) (h0 : 0 ≤ v) (h1 : v < 256) : At bs p (numB v 1) ↔ p + 1 ≤ bs.length ∧ wrap64 (upN bs p 1 1) = v := by
 rw [num_one bs p hb]
 show At bs p [byteI (v / 1)] ↔ _
 rw [at_cons]
 have : byteI (v / 1) = v := by unfold byteI; omega
 rw [this]
 exact ⟨fun h => ⟨h.1, h.2.1⟩, fun h => ⟨h.1, h.2, At.nil _ _⟩⟩
theorem num_bytes2 (bs : List Int) (hb : Bytes bs) (p : Nat) (v : Int) (h0 : 0 ≤ v) (h1 : v < 65536) : At bs p (numB v 2) ↔ p + 2 ≤ bs.length ∧ wrap64 (upN bs p 2 2) = v := by
 rw [num_two bs p hb]
 show At bs p [byteI (v / 1), byteI (v / 256)] ↔ _
 rw [at_cons, at_cons]
 have b0 := byte_at hb p
 have b1 := byte_at hb (p + 1)
 unfold byteI
 constructor
 ·rintro ⟨a, b, c, d, _⟩
  exact ⟨c, by omega⟩
 ·rintro ⟨a, b⟩
  exact ⟨by omega, by omega, by omega, by omega, At.nil _ _⟩
theorem up8 (bs : List Int) (p : Nat) : upN bs p 8 8 = ((((((bs.getD (p + 7) 0 * 256 + bs.getD (p + 6) 0) * 256 + bs.getD (p + 5) 0) * 256 + bs.getD (p + 4) 0) * 256 + bs.getD (p + 3) 0) * 256 + bs.getD (p + 2) 0) * 256 + bs.getD (p + 1) 0) * 256 + bs.getD p 0 := by
 show (((((((((0 : Int) * 256 + bs.getD (p + 7) 0) * 256 + bs.getD (p + 6) 0) * 256 + bs.getD (p + 5) 0) * 256 + bs.getD (p + 4) 0) * 256 + bs.getD (p + 3) 0) * 256 + bs.getD (p + 2) 0) * 256 + bs.getD (p + 1) 0) * 256 + bs.getD p 0) = _
 rw [Int.zero_mul, Int.zero_add]
theorem eight {b0 b1 b2 b3 b4 b5 b6 b7 v : Int} (h0 : 0 ≤ b0 ∧ b0 ≤ 255) (h1 : 0 ≤ b1 ∧ b1 ≤ 255) (h2 : 0 ≤ b2 ∧ b2 ≤ 255) (h3 : 0 ≤ b3 ∧ b3 ≤ 255) (h4 : 0 ≤ b4 ∧ b4 ≤ 255) (h5 : 0 ≤ b5 ∧ b5 ≤ 255) (h6 : 0 ≤ b6 ∧ b6 ≤ 255) (h7 : 0 ≤ b7 ∧ b7 ≤ 255) :
  v % 18446744073709551616 = ((((((b7 * 256 + b6) * 256 + b5) * 256 + b4) * 256 + b3) * 256 + b2) * 256 + b1) * 256 + b0 ↔ b0 = v % 256 ∧ b1 = v / 256 % 256 ∧ b2 = v / 65536 % 256 ∧ b3 = v / 16777216 % 256 ∧ b4 = v / 4294967296 % 256 ∧ b5 = v / 1099511627776 % 256 ∧ b6 = v / 281474976710656 % 256 ∧ b7 = v / 72057594037927936 % 256 := by
 constructor
 ·intro h
  refine ⟨by omega, by omega, by omega, by omega, by omega, by omega, by omega, by omega⟩
 ·rintro ⟨rfl, rfl, rfl, rfl, rfl, rfl, rfl, rfl⟩
  omega
theorem num_bytes8 (bs : List Int) (hb : Bytes bs) (p : Nat) (v : Int) (h0 : -9223372036854775808 ≤ v) (h1 : v ≤ 9223372036854775807) : At bs p (numB v 8) ↔ p + 8 ≤ bs.length ∧ wrap64 (upN bs p 8 8) = v := by
 show At bs p [byteI (v / 1), byteI (v / 256), byteI (v / 65536), byteI (v / 16777216), byteI (v / 4294967296), byteI (v / 1099511627776), byteI (v / 281474976710656), byteI (v / 72057594037927936)] ↔ _
 rw [at_cons, at_cons, at_cons, at_cons, at_cons, at_cons, at_cons, at_cons, up8]
 have e := eight (v := v) (byte_at hb p) (byte_at hb (p + 1)) (byte_at hb (p + 2)) (byte_at hb (p + 3)) (byte_at hb (p + 4)) (byte_at hb (p + 5)) (byte_at hb (p + 6)) (byte_at hb (p + 7))
 have r := upN_range bs p 8 hb 8
 rw [up8] at r
 have p8 : (256 : Int) ^ 8 = 18446744073709551616 := by decide
 rw [p8] at r
 obtain ⟨U, hU⟩ : ∃ U, U = ((((((bs.getD (p + 7) 0 * 256 + bs.getD (p + 6) 0) * 256 + bs.getD (p + 5) 0) * 256 + bs.getD (p + 4) 0) * 256 + bs.getD (p + 3) 0) * 256 + bs.getD (p + 2) 0) * 256 + bs.getD (p + 1) 0) * 256 + bs.getD p 0 := ⟨_, rfl⟩
 rw [← hU] at e r ⊢
 have w : wrap64 U = v ↔ v % 18446744073709551616 = U := by
  clear e hU
  unfold wrap64
  constructor
  ·intro h; omega
  ·intro h; omega
 rw [w, e]
 have v1 : v / 1 = v := Int.ediv_one v
 unfold byteI
 rw [v1]
 constructor
 ·rintro ⟨_, a0, _, a1, _, a2, _, a3, _, a4, _, a5, _, a6, l, a7, _⟩
  exact ⟨by omega, a0, a1, a2, a3, a4, a5, a6, a7⟩
 ·rintro ⟨l, a0, a1, a2, a3, a4, a5, a6, a7⟩
  exact ⟨by omega, a0, by omega, a1, by omega, a2, by omega, a3, by omega, a4, by omega, a5, by omega, a6, by omega, a7, At.nil _ _⟩
theorem num_iff {bs : List Int} (hb : Bytes bs) {nx k : Nat} {y : S50} {E : Int → Int} (hk : k = 1 ∨ k = 2 ∨ k = 8) (hE : ∀ v, E v = 0 → k = 1 ∧ 0 ≤ v ∧ v < 256 ∨ k = 2 ∧ 0 ≤ v ∧ v < 65536 ∨ k = 8) {s : S50 × Nat} :
  takeF bs nx k (setF y 4 (wrap64 (upN bs nx k k))) (E (wrap64 (upN bs nx k k))) = .ok s ↔ ∃ v, s = (setF y 4 v, nx + k) ∧ E v = 0 ∧ At bs nx (numB v k) ∧ -9223372036854775808 ≤ v ∧ v ≤ 9223372036854775807 := by
 have num : ∀ v : Int, -9223372036854775808 ≤ v → v ≤ 9223372036854775807 → E v = 0 → (At bs nx (numB v k) ↔ nx + k ≤ bs.length ∧ wrap64 (upN bs nx k k) = v) := by
  intro v l u h
  rcases hE v h with ⟨rfl, h0, h1⟩ | ⟨rfl, h0, h1⟩ | rfl
  ·exact num_bytes1 bs hb nx v h0 h1
  ·exact num_bytes2 bs hb nx v h0 h1
  ·exact num_bytes8 bs hb nx v l u
 have hw : ∀ u : Int, -9223372036854775808 ≤ wrap64 u ∧ wrap64 u ≤ 9223372036854775807 := fun u => by unfold wrap64; omega
 rw [takeF_iff]
 constructor
 ·rintro ⟨h1, h2, rfl⟩
  obtain ⟨l, u⟩ := hw (upN bs nx k k)
  exact ⟨_, rfl, h2, (num _ l u h2).2 ⟨h1, rfl⟩, l, u⟩
 ·rintro ⟨v, rfl, h2, h3, l, u⟩
  obtain ⟨h4, h5⟩ := (num v l u h2).1 h3
  rw [h5]
  exact ⟨h4, h2, rfl⟩
theorem listE_ok {W V : Int} {l : List Int} : listE W V l = 0 ↔ (l.length : Int) = W ∧ ∀ v ∈ l, 0 ≤ v ∧ v < V := by
 unfold listE
 have hB : l.all (varB V) = true ↔ ∀ v ∈ l, 0 ≤ v ∧ v < V := by
  rw [List.all_eq_true]
  unfold varB
  simp only [Bool.and_eq_true, decide_eq_true_eq]
 split
 ·rename_i h
  split
  ·rename_i h2; exact ⟨fun _ => ⟨h, hB.1 h2⟩, fun _ => rfl⟩
  ·rename_i h2; exact ⟨fun e => by omega, fun e => absurd (hB.2 e.2) h2⟩
 ·rename_i h
  exact ⟨fun e => by omega, fun e => absurd e.1 h⟩
theorem listR_iff {bs : List Int} (hb : Bytes bs) {V : Int} (hV : V ≤ 255) {p : Nat} : ∀ {q : Nat} {l : List Int}, listR bs V p q = .ok l ↔ l.length = q ∧ (∀ v ∈ l, 0 ≤ v ∧ v < V) ∧ At bs p (l.map byteI)
 | 0, l => by
  constructor
  ·intro h; injection h with h; subst h; exact ⟨rfl, (fun v hv => by cases hv), At.nil _ _⟩
  ·rintro ⟨h, _, _⟩
   rw [List.eq_nil_of_length_eq_zero h]; rfl
 | q + 1, l => by
  constructor
  ·intro h
   cases e : listR bs V p q with
   | error er => rw [listR_err e (q + 1) (by omega)] at h; cases h
   | ok l0 =>
    rw [listR_next e] at h
    obtain ⟨h1, h2, h3⟩ := (listR_iff hb hV).1 e
    split at h
    ·rename_i c
     split at h
     ·rename_i c2
      injection h with h
      subst h
      have hy := byte_at hb (p + q)
      refine ⟨by rw [List.length_append, h1]; rfl, fun v hv => ?_, ?_⟩
      ·rcases List.mem_append.1 hv with g | g
       ·exact h2 v g
       ·rw [List.mem_singleton] at g; rw [g]; exact ⟨hy.1, c2⟩
      ·rw [List.map_append, List.map_cons, List.map_nil, at_snoc, List.length_map, h1]
       exact ⟨h3, c, (byteI_id hy.1 hy.2).symm⟩
     ·cases h
    ·cases h
  ·rintro ⟨h1, h2, h3⟩
   obtain ⟨l0, a, rfl⟩ : ∃ l0 a, l = l0 ++ [a] := by
    rcases List.eq_nil_or_concat l with g | ⟨l0, a, g⟩
    ·rw [g] at h1; cases h1
    ·exact ⟨l0, a, by rw [g, List.concat_eq_append]⟩
   rw [List.length_append, List.length_singleton] at h1
   rw [List.map_append, List.map_cons, List.map_nil, at_snoc, List.length_map] at h3
   have hl0 : l0.length = q := by omega
   rw [hl0] at h3
   have e : listR bs V p q = .ok l0 := (listR_iff hb hV).2 ⟨hl0, fun v hv => h2 v (List.mem_append_left _ hv), h3.1⟩
   have ha := h2 a (List.mem_append_right _ (List.mem_singleton.2 rfl))
   have e2 : bs.getD (p + q) 0 = a := by rw [h3.2.2, byteI_id (by omega) (by omega)]
   rw [listR_next e, if_pos h3.2.1, e2, if_pos ha.2]
theorem list_iff {bs : List Int} (hb : Bytes bs) {W V : Int} (hV : V ≤ 255) (hW : W ≤ 255) {nx j : Nat} {y : S50} {s : S50 × Nat} :
  takeL bs nx W V y j = .ok s ↔ ∃ l, s = (setL y j l, nx + (1 + l.length)) ∧ listE W V l = 0 ∧ At bs nx (byteI l.length :: l.map byteI) := by
 unfold takeL
 have hy := byte_at hb nx
 constructor
 ·intro h
  split at h
  ·rename_i c
   split at h
   ·rename_i c2
    cases e : listR bs V (nx + 1) (bs.getD nx 0).toNat with
    | error er => rw [e] at h; cases h
    | ok l =>
     rw [e] at h
     injection h with h
     subst h
     obtain ⟨h1, h2, h3⟩ := (listR_iff hb hV).1 e
     refine ⟨l, by rw [h1, Nat.add_assoc], listE_ok.2 ⟨by omega, h2⟩, at_cons.2 ⟨c, ?_, h3⟩⟩
     rw [byteI_id (by omega) (by omega)]; omega
   ·cases h
  ·cases h
 ·rintro ⟨l, rfl, h2, h3⟩
  obtain ⟨h4, h5, h6⟩ := at_cons.1 h3
  obtain ⟨h7, h8⟩ := listE_ok.1 h2
  rw [byteI_id (by omega) (by omega)] at h5
  have e : listR bs V (nx + 1) (bs.getD nx 0).toNat = .ok l := (listR_iff hb hV).2 ⟨by rw [h5]; rfl, h8, h6⟩
  rw [if_pos h4, if_pos (by rw [h5]; exact h7), e]
  simp only [h5, Int.toNat_natCast, Nat.add_assoc]
def upd (y : S50) (pk : PK) (x : S50) : S50 := match pk with
 | .R => { y with f1 := x.f1 }
 | .S => { y with f2 := x.f2 }
 | .T => { y with f3 := x.f3 }
 | .args | .vals => { y with f5 := x.f5 }
 | .rets => { y with f6 := x.f6 }
 | _ => { y with f4 := x.f4 }
def fld : PK → Nat
 | .R => 1
 | .S => 2
 | .T => 3
 | .args | .vals => 5
 | .rets => 6
 | _ => 4
def reads : PK → Nat → Bool
 | .args, i => i == 4 || i == 5
 | .rets, i => i == 4 || i == 6
 | pk, i => i == fld pk
def In64 (v : Int) : Prop := -9223372036854775808 ≤ v ∧ v ≤ 9223372036854775807
def Fresh (y : S50) : PK → Prop
 | .args | .vals => y.f5 = []
 | .rets => y.f6 = []
 | _ => True
def wid (op : Int) : Nat := (tabL.getD op.toNat 0).toNat
def kOK (k : Nat) : PK → Prop
 | .int => k = 8
 | .fields | .field | .glob => k = 1
 | .func | .jump => k = 2
 | _ => True
theorem upd_0 (y : S50) (pk : PK) (x : S50) : (upd y pk x).f0 = y.f0 := by cases pk <;> rfl
theorem upd_self (y : S50) (pk : PK) (z : S50) : upd y pk (upd y pk z) = upd y pk z := by cases pk <;> rfl
theorem upd_ne (w z x : S50) (pk pk' : PK) (h : fld pk ≠ fld pk') : upd w pk (upd z pk' x) = upd w pk z := by
 cases pk <;> cases pk' <;> first | rfl | exact absurd rfl h
theorem fresh_ne (z x : S50) (pk pk' : PK) (h : fld pk ≠ fld pk') (hf : Fresh z pk) : Fresh (upd z pk' x) pk := by
 cases pk <;> cases pk' <;> first | exact hf | exact absurd rfl h
theorem part_ne (G : Int) (fs : List S46) (R V m : Int) (z x : S50) (pk pk' : PK) (h : reads pk (fld pk') = false) : partE G fs R V m (upd z pk' x) pk = partE G fs R V m z pk ∧ putB (upd z pk' x) pk = putB z pk := by
 cases pk <;> cases pk' <;> first | exact ⟨rfl, rfl⟩ | cases h
theorem reads_ne (pk pk' : PK) (h : reads pk (fld pk') = false) : fld pk ≠ fld pk' := by
 cases pk <;> cases pk' <;> first | decide | cases h
theorem in64_upd {y z : S50} (pk : PK) (hy : In64 y.f4) (hz : In64 z.f4) : In64 (upd y pk z).f4 := by cases pk <;> first | exact hy | exact hz
section
variable {G : Int} {fs : List S46} {R V m : Int} {bs : List Int}
structure Small (G : Int) (fs : List S46) (R V m : Int) : Prop where
 g : G ≤ 255
 n : fs.length ≤ 65535
 r : R ≤ 255
 v : V ≤ 255
 m : m ≤ 65535
 a : ∀ i, (fs.getD i z46).f0 ≤ 255
 b : ∀ i, (fs.getD i z46).f1 ≤ 255
theorem upd_num {y : S50} {v : Int} (pk : PK) (h : numK pk = true) (z : S50) (hz : z.f4 = v) : upd y pk z = setF y 4 v := by
 cases pk <;> first | (cases h; done) | (subst hz; rfl)
theorem numK_put {z : S50} (pk : PK) (h : numK pk = true) : putB z pk = numB z.f4 (wid z.f0) := by
 cases pk <;> first | (cases h; done) | rfl
theorem take_num_eq {y : S50} {nx : Nat} (pk : PK) (h : numK pk = true) : takeS G fs R V m bs y nx pk = takeF bs nx (wid y.f0) (setF y 4 (wrap64 (upN bs nx (wid y.f0) (wid y.f0)))) (partE G fs R V m (setF y 4 (wrap64 (upN bs nx (wid y.f0) (wid y.f0)))) pk) := by
 cases pk <;> first | (cases h; done) | rfl
theorem partE_num (S : Small G fs R V m) (y : S50) (pk : PK) (h : numK pk = true) (hk : kOK (wid y.f0) pk) (v : Int) (h0 : partE G fs R V m (setF y 4 v) pk = 0) : wid y.f0 = 1 ∧ 0 ≤ v ∧ v < 256 ∨ wid y.f0 = 2 ∧ 0 ≤ v ∧ v < 65536 ∨ wid y.f0 = 8 := by
 obtain ⟨s1, s2, s3, s4, s5, _, _⟩ := S
 cases pk
 case int => exact .inr (.inr hk)
 case fields => have := (numE_ok (by decide)).1 (show numE 1 9 17 v = 0 from h0); exact .inl ⟨hk, by omega, by omega⟩
 case field => have := (numE_ok (by decide)).1 (show numE 0 8 17 v = 0 from h0); exact .inl ⟨hk, by omega, by omega⟩
 case glob => have := (numE_ok (by decide)).1 (show numE 0 G 18 v = 0 from h0); exact .inl ⟨hk, by omega, by omega⟩
 case func => have := (numE_ok (by decide)).1 (show numE 0 fs.length 14 v = 0 from h0); exact .inr (.inl ⟨hk, by omega, by omega⟩)
 case jump => have := (numE_ok (by decide)).1 (show numE 0 m 16 v = 0 from h0); exact .inr (.inl ⟨hk, by omega, by omega⟩)
 all_goals cases h
theorem wid_cases {k : Nat} {pk : PK} (h : numK pk = true) (hk : kOK k pk) : k = 1 ∨ k = 2 ∨ k = 8 := by
 cases pk <;> first | (cases h; done) | exact .inl hk | exact .inr (.inl hk) | exact .inr (.inr hk)
theorem part_iff (hb : Bytes bs) (S : Small G fs R V m) {y : S50} (hy : In64 y.f4) {nx : Nat} {pk : PK} (hf : Fresh y pk) (hk : kOK (wid y.f0) pk) {z : S50} {nx' : Nat} :
  takeS G fs R V m bs y nx pk = .ok (z, nx') ↔ upd y pk z = z ∧ In64 z.f4 ∧ nx' = nx + (putB z pk).length ∧ partE G fs R V m z pk = 0 ∧ At bs nx (putB z pk) := by
 by_cases hn : numK pk = true
 ·rw [take_num_eq pk hn, num_iff (E := fun v => partE G fs R V m (setF y 4 v) pk) hb (wid_cases hn hk) (partE_num S y pk hn hk)]
  constructor
  ·rintro ⟨v, h1, h2, h3, h4, h5⟩
   injection h1 with h1 h6
   subst h1
   have e : putB (setF y 4 v) pk = numB v (wid y.f0) := numK_put pk hn
   refine ⟨upd_num pk hn _ rfl, ⟨h4, h5⟩, by rw [e, numB_len]; exact h6, h2, by rw [e]; exact h3⟩
  ·rintro ⟨h1, h2, h3, h4, h5⟩
   have e1 : z = setF y 4 z.f4 := h1.symm.trans (upd_num pk hn z rfl)
   have e0 : z.f0 = y.f0 := by rw [← h1]; exact upd_0 _ _ _
   rw [numK_put pk hn, e0] at h5 h3
   rw [numB_len] at h3
   refine ⟨z.f4, by rw [← e1, h3], by rw [← e1]; exact h4, h5, h2.1, h2.2⟩
 ·have var : ∀ (i : Nat), (∀ b, putB (setF y i b) pk = [byteI b]) → (∀ b, (setF y i b).f4 = y.f4) → (∀ b, upd y pk (setF y i b) = setF y i b) → (∀ z, upd y pk z = z → ∃ b, z = setF y i b) →
    (takeF bs nx 1 (setF y i (bs.getD nx 0)) (varE V (bs.getD nx 0)) = .ok (z, nx') ↔ ∃ b, (z, nx') = (setF y i b, nx + 1) ∧ varE V b = 0 ∧ At bs nx [byteI b]) →
    (∀ b, partE G fs R V m (setF y i b) pk = varE V b) →
    (takeF bs nx 1 (setF y i (bs.getD nx 0)) (varE V (bs.getD nx 0)) = .ok (z, nx') ↔ upd y pk z = z ∧ In64 z.f4 ∧ nx' = nx + (putB z pk).length ∧ partE G fs R V m z pk = 0 ∧ At bs nx (putB z pk)) := by
   intro i g1 g2 g3 g4 g5 g6
   rw [g5]
   constructor
   ·rintro ⟨b, h1, h2, h3⟩
    injection h1 with h1 h4
    subst h1
    exact ⟨g3 b, by rw [g2]; exact hy, by rw [g1]; exact h4, by rw [g6]; exact h2, by rw [g1]; exact h3⟩
   ·rintro ⟨h1, h2, h3, h4, h5⟩
    obtain ⟨b, rfl⟩ := g4 z h1
    rw [g1] at h3 h5
    rw [g6] at h4
    exact ⟨b, by rw [h3]; rfl, h4, h5⟩
  have lst : ∀ (W : Int) (j : Nat), W ≤ 255 → (∀ l, putB (setL y j l) pk = byteI l.length :: l.map byteI) → (∀ l, upd y pk (setL y j l) = setL y j l) → (∀ z, upd y pk z = z → ∃ l, z = setL y j l) →
    (∀ l, partE G fs R V m (setL y j l) pk = listE W V l) →
    (takeL bs nx W V y j = .ok (z, nx') ↔ upd y pk z = z ∧ In64 z.f4 ∧ nx' = nx + (putB z pk).length ∧ partE G fs R V m z pk = 0 ∧ At bs nx (putB z pk)) := by
   intro W j hW g1 g3 g4 g6
   rw [list_iff hb S.v hW]
   constructor
   ·rintro ⟨l, h1, h2, h3⟩
    injection h1 with h1 h4
    subst h1
    refine ⟨g3 l, by rw [setL_4]; exact hy, ?_, by rw [g6]; exact h2, by rw [g1]; exact h3⟩
    rw [g1, h4, List.length_cons, List.length_map, Nat.add_comm 1]
   ·rintro ⟨h1, h2, h3, h4, h5⟩
    obtain ⟨l, rfl⟩ := g4 z h1
    rw [g1] at h3 h5
    rw [g6] at h4
    refine ⟨l, ?_, h4, h5⟩
    rw [h3, List.length_cons, List.length_map, Nat.add_comm 1]
  cases pk
  case R => exact var 1 (fun _ => rfl) (fun _ => rfl) (fun _ => rfl) (fun z hz => ⟨z.f1, hz.symm⟩) (var_iff hb S.v) (fun _ => rfl)
  case S => exact var 2 (fun _ => rfl) (fun _ => rfl) (fun _ => rfl) (fun z hz => ⟨z.f2, hz.symm⟩) (var_iff hb S.v) (fun _ => rfl)
  case T => exact var 3 (fun _ => rfl) (fun _ => rfl) (fun _ => rfl) (fun z hz => ⟨z.f3, hz.symm⟩) (var_iff hb S.v) (fun _ => rfl)
  case args =>
   have h5 : ∀ l, setL y 5 l = { y with f5 := l } := fun l => by show { y with f5 := y.f5 ++ l } = _; rw [show y.f5 = [] from hf, List.nil_append]
   exact lst _ 5 (S.a _) (fun l => by rw [h5]; rfl) (fun l => by rw [h5]; rfl) (fun z hz => ⟨z.f5, by rw [h5]; exact hz.symm⟩) (fun l => by rw [h5]; rfl)
  case vals =>
   have h5 : ∀ l, setL y 5 l = { y with f5 := l } := fun l => by show { y with f5 := y.f5 ++ l } = _; rw [show y.f5 = [] from hf, List.nil_append]
   exact lst _ 5 S.r (fun l => by rw [h5]; rfl) (fun l => by rw [h5]; rfl) (fun z hz => ⟨z.f5, by rw [h5]; exact hz.symm⟩) (fun l => by rw [h5]; rfl)
  case rets =>
   have h6 : ∀ l, setL y 6 l = { y with f6 := l } := fun l => by show { y with f6 := y.f6 ++ l } = _; rw [show y.f6 = [] from hf, List.nil_append]
   exact lst _ 6 (S.b _) (fun l => by rw [h6]; rfl) (fun l => by rw [h6]; rfl) (fun z hz => ⟨z.f6, by rw [h6]; exact hz.symm⟩) (fun l => by rw [h6]; rfl)
  all_goals exact absurd rfl hn
def fillL (y : S50) (l : List PK) (x : S50) : S50 := l.foldl (fun y pk => upd y pk x) y
theorem fill_0 (l : List PK) (x : S50) : ∀ y, (fillL y l x).f0 = y.f0 := by
 induction l with
 | nil => intro y; rfl
 | cons pk l ih => intro y; exact (ih (upd y pk x)).trans (upd_0 _ _ _)
theorem fill_upd (l : List PK) (w x : S50) (pk : PK) (h : ∀ pk' ∈ l, fld pk ≠ fld pk') : ∀ z, upd w pk (fillL z l x) = upd w pk z := by
 induction l with
 | nil => intro z; rfl
 | cons p l ih => intro z; exact (ih (fun q hq => h q (List.mem_cons_of_mem _ hq)) (upd z p x)).trans (upd_ne _ _ _ _ _ (h p List.mem_cons_self))
theorem fill_part (l : List PK) (x : S50) (pk : PK) (h : ∀ pk' ∈ l, reads pk (fld pk') = false) : ∀ z, partE G fs R V m (fillL z l x) pk = partE G fs R V m z pk ∧ putB (fillL z l x) pk = putB z pk := by
 induction l with
 | nil => intro z; exact ⟨rfl, rfl⟩
 | cons p l ih =>
  intro z
  have h1 := ih (fun q hq => h q (List.mem_cons_of_mem _ hq)) (upd z p x)
  have h2 := part_ne G fs R V m z x pk p (h p List.mem_cons_self)
  exact ⟨h1.1.trans h2.1, h1.2.trans h2.2⟩
def partsL (G : Int) (fs : List S46) (R V m : Int) (bs : List Int) : List PK → S50 → Nat → Ex (S50 × Nat)
 | [], y, nx => .ok (y, nx)
 | pk :: l, y, nx => bindE (takeS G fs R V m bs y nx pk) fun s => partsL G fs R V m bs l s.1 s.2
def Apart (l : List PK) : Prop := l.Pairwise fun pk pk' => reads pk (fld pk') = false
theorem bind_ok {α β : Type} {x : Ex α} {g : α → Ex β} {b : β} : bindE x g = .ok b ↔ ∃ a, x = .ok a ∧ g a = .ok b := by
 unfold bindE
 cases x with
 | error e => exact ⟨(fun h => by cases h), (fun ⟨a, h, _⟩ => by cases h)⟩
 | ok a => exact ⟨fun h => ⟨a, rfl, h⟩, fun ⟨c, h, h2⟩ => by injection h with h; subst h; exact h2⟩
theorem parts_iff (hb : Bytes bs) (S : Small G fs R V m) : ∀ {l : List PK} {y : S50} {nx : Nat} {z : S50} {nx' : Nat}, Apart l → In64 y.f4 → (∀ pk ∈ l, Fresh y pk) → (∀ pk ∈ l, kOK (wid y.f0) pk) →
  (partsL G fs R V m bs l y nx = .ok (z, nx') ↔ fillL y l z = z ∧ In64 z.f4 ∧ nx' = nx + (l.flatMap (putB z)).length ∧ (∀ pk ∈ l, partE G fs R V m z pk = 0) ∧ At bs nx (l.flatMap (putB z)))
 | [], y, nx, z, nx', _, hy, _, _ => by
  constructor
  ·intro h
   injection h with h
   injection h with h1 h2
   subst h1; subst h2
   exact ⟨rfl, hy, rfl, (fun _ h => by cases h), At.nil _ _⟩
  ·rintro ⟨h1, _, h2, _⟩
   have h1 : y = z := h1
   subst h1; rw [h2]; rfl
 | pk :: l, y, nx, z, nx', ha, hy, hf, hk => by
  obtain ⟨ha0, ha1⟩ := List.pairwise_cons.1 ha
  have hd : ∀ pk' ∈ l, fld pk ≠ fld pk' := fun p hp => reads_ne _ _ (ha0 p hp)
  show bindE _ _ = _ ↔ _
  rw [bind_ok]
  constructor
  ·rintro ⟨⟨z1, nx1⟩, h1, h2⟩
   obtain ⟨a1, a2, a3, a4, a5⟩ := (part_iff hb S hy (hf pk List.mem_cons_self) (hk pk List.mem_cons_self)).1 h1
   have e0 : z1.f0 = y.f0 := by rw [← a1]; exact upd_0 _ _ _
   obtain ⟨b1, b2, b3, b4, b5⟩ := (parts_iff hb S ha1 a2 (fun p hp => by rw [← a1]; exact fresh_ne _ _ _ _ (fun e => hd p hp e.symm) (hf p (List.mem_cons_of_mem _ hp))) (fun p hp => by rw [e0]; exact hk p (List.mem_cons_of_mem _ hp))).1 h2
   have e1 : upd y pk z = z1 := by rw [← b1, fill_upd l _ _ _ hd, a1]
   have e2 := fill_part (G := G) (fs := fs) (R := R) (V := V) (m := m) l z pk ha0 z1
   rw [b1] at e2
   refine ⟨by show fillL (upd y pk z) l z = z; rw [e1, b1], b2, ?_, ?_, ?_⟩
   ·rw [List.flatMap_cons, List.length_append, e2.2, b3]
    rw [show (z1, nx1).2 = nx1 from rfl, a3, Nat.add_assoc]
   ·intro p hp
    rcases List.mem_cons.1 hp with rfl | hp
    ·rw [e2.1]; exact a4
    ·exact b4 p hp
   ·rw [List.flatMap_cons, at_append, e2.2]
    refine ⟨a5, ?_⟩
    rw [← a3]; exact b5
  ·rintro ⟨c1, c2, c3, c4, c5⟩
   have c1 : fillL (upd y pk z) l z = z := c1
   rw [List.flatMap_cons, at_append] at c5
   rw [List.flatMap_cons, List.length_append] at c3
   have e2 := fill_part (G := G) (fs := fs) (R := R) (V := V) (m := m) l z pk ha0 (upd y pk z)
   rw [c1] at e2
   rw [e2.2] at c5 c3
   refine ⟨(upd y pk z, nx + (putB (upd y pk z) pk).length), (part_iff hb S hy (hf pk List.mem_cons_self) (hk pk List.mem_cons_self)).2 ⟨upd_self _ _ _, in64_upd pk hy c2, rfl, ?_, c5.1⟩, ?_⟩
   ·rw [← e2.1]; exact c4 pk List.mem_cons_self
   ·exact (parts_iff hb S ha1 (in64_upd pk hy c2) (fun p hp => fresh_ne _ _ _ _ (fun e => hd p hp e.symm) (hf p (List.mem_cons_of_mem _ hp))) (fun p hp => by rw [upd_0]; exact hk p (List.mem_cons_of_mem _ hp))).2
     ⟨c1, c2, by rw [c3, Nat.add_assoc], fun p hp => c4 p (List.mem_cons_of_mem _ hp), c5.2⟩
end
def kOKB (k : Nat) : PK → Bool
 | .int => k == 8
 | .fields | .field | .glob => k == 1
 | .func | .jump => k == 2
 | _ => true
theorem kOKB_ok {k : Nat} {pk : PK} (h : kOKB k pk = true) : kOK k pk := by cases pk <;> first | trivial | exact beq_iff_eq.1 h
theorem apart_cons {a : PK} {l : List PK} (h : l.all (fun b => !reads a (fld b)) = true) (hl : Apart l) : Apart (a :: l) :=
 List.pairwise_cons.2 ⟨fun b hb => by have := List.all_eq_true.1 h b hb; simpa using this, hl⟩
theorem parts_apart (op : Nat) (h : op < 18) : Apart (partsOf op) ∧ ∀ pk ∈ partsOf op, kOK (tabL.getD op 0).toNat pk := by
 refine ⟨?_, fun pk hp => kOKB_ok (List.all_eq_true.1 (show (partsOf op).all (kOKB (tabL.getD op 0).toNat) = true from ?_) pk hp)⟩
 ·rcases op with _ | _ | _ | _ | _ | _ | _ | _ | _ | _ | _ | _ | _ | _ | _ | _ | _ | _ | op <;> first
   | omega
   | exact List.Pairwise.nil
   | exact apart_cons rfl List.Pairwise.nil
   | exact apart_cons rfl (apart_cons rfl List.Pairwise.nil)
   | exact apart_cons rfl (apart_cons rfl (apart_cons rfl List.Pairwise.nil))
 ·rcases op with _ | _ | _ | _ | _ | _ | _ | _ | _ | _ | _ | _ | _ | _ | _ | _ | _ | _ | op <;> first | omega | rfl
theorem bindE_assoc {α β γ : Type} (x : Ex α) (f : α → Ex β) (g : β → Ex γ) : bindE (bindE x f) g = bindE x fun a => bindE (f a) g := by
 unfold bindE
 cases x <;> rfl
theorem bindE_eta {α β : Type} (x : Ex (α × β)) : bindE x (fun s : α × β => (.ok (s.1, s.2) : Ex (α × β))) = x := by
 unfold bindE
 cases x <;> rfl
section
variable {G : Int} {fs : List S46} {R V m : Int} {bs : List Int}
theorem partsL_snoc (pk : PK) : ∀ (l : List PK) (x : S50) (nx : Nat), partsL G fs R V m bs (l ++ [pk]) x nx = bindE (partsL G fs R V m bs l x nx) fun s : S50 × Nat => takeS G fs R V m bs s.1 s.2 pk
 | [], x, nx => bindE_eta _
 | p :: l, x, nx => by
  show bindE _ (fun s : S50 × Nat => partsL G fs R V m bs (l ++ [pk]) s.1 s.2) = bindE (bindE _ _) _
  rw [bindE_assoc]
  exact congrArg _ (funext fun s => partsL_snoc pk l s.1 s.2)
theorem parts_run (op : Nat) (x : S50) (nx : Nat) : ∀ n, n ≤ (partsOf op).length → partsR G fs R V m bs op x nx n = partsL G fs R V m bs ((partsOf op).take n) x nx
 | 0, _ => rfl
 | n + 1, h => by
  have ih := parts_run op x nx n (by omega)
  rw [List.take_succ_eq_append_getElem (by omega), partsL_snoc, ← ih]
  unfold partsR
  rw [runE_bind]
  refine congrArg _ (funext fun s => ?_)
  simp only [List.getElem?_eq_getElem (show n < (partsOf op).length by omega)]
def nm (ks : List PK) (i : Nat) : Bool := ks.any fun k => fld k == i
theorem plain_bits : ∀ (op : Fin 18) (b1 b2 b3 b4 b5 b6 : Bool), plainB (partsOf op.val) [b1, b2, b3, b4, b5, b6] = ((!b1 || nm (partsOf op.val) 1) && (!b2 || nm (partsOf op.val) 2) && (!b3 || nm (partsOf op.val) 3) && (!b4 || nm (partsOf op.val) 4) && (!b5 || nm (partsOf op.val) 5) && (!b6 || nm (partsOf op.val) 6)) := by decide +kernel
theorem fill_eq (v : Int) (z : S50) (op : Nat) (h : op < 18) : fillL (x0Of v) (partsOf op) z = ⟨v, if nm (partsOf op) 1 then z.f1 else 0, if nm (partsOf op) 2 then z.f2 else 0, if nm (partsOf op) 3 then z.f3 else 0, if nm (partsOf op) 4 then z.f4 else 0, if nm (partsOf op) 5 then z.f5 else [], if nm (partsOf op) 6 then z.f6 else []⟩ := by
 rcases op with _ | _ | _ | _ | _ | _ | _ | _ | _ | _ | _ | _ | _ | _ | _ | _ | _ | _ | op <;> first | omega | rfl
theorem plain_iff (z : S50) (h0 : 0 ≤ z.f0) (h : z.f0 < 18) : plainB (partsOf z.f0.toNat) (usesB z) = true ↔ fillL (x0Of z.f0) (partsOf z.f0.toNat) z = z := by
 have hb := plain_bits ⟨z.f0.toNat, by omega⟩ (z.f1 != 0) (z.f2 != 0) (z.f3 != 0) (z.f4 != 0) (decide (0 < z.f5.length)) (decide (0 < z.f6.length))
 unfold usesB
 rw [show partsOf (⟨z.f0.toNat, by omega⟩ : Fin 18).val = partsOf z.f0.toNat from rfl] at hb
 rw [hb, fill_eq _ _ _ (by omega)]
 obtain ⟨f0, f1, f2, f3, f4, f5, f6⟩ := z
 simp only [Bool.and_eq_true, Bool.or_eq_true, Bool.not_eq_true', bne_eq_false_iff_eq, decide_eq_false_iff_not, S50.mk.injEq, true_and]
 have e1 : ∀ (b : Bool) (v : Int), (v = 0 ∨ b = true) ↔ (if b = true then v else 0) = v := fun b v => by cases b <;> simp <;> exact ⟨Eq.symm, Eq.symm⟩
 have e2 : ∀ (b : Bool) (l : List Int), (¬ 0 < l.length ∨ b = true) ↔ (if b = true then l else []) = l := fun b l => by cases b <;> cases l <;> simp
 rw [e1, e1, e1, e1, e2, e2]
 exact ⟨fun ⟨⟨⟨⟨⟨a, b⟩, c⟩, d⟩, e⟩, f⟩ => ⟨a, b, c, d, e, f⟩, fun ⟨a, b, c, d, e, f⟩ => ⟨⟨⟨⟨⟨a, b⟩, c⟩, d⟩, e⟩, f⟩⟩
theorem opE_x0 (locs : Int) (z : S50) (last : Bool) : opE locs z last = 0 ↔ opE locs (x0Of z.f0) last = 0 ∧ 1 ≤ z.f0 ∧ z.f0 < 18 ∧ plainB (partsOf z.f0.toNat) (usesB z) = true := by
 unfold opE
 by_cases h0 : 1 ≤ z.f0 ∧ z.f0 < 18
 ·have hx : plainB (partsOf (x0Of z.f0).f0.toNat) (usesB (x0Of z.f0)) = true := by
   have := plain_bits ⟨z.f0.toNat, by omega⟩ false false false false false false
   exact this
  have h0x : 1 ≤ (x0Of z.f0).f0 ∧ (x0Of z.f0).f0 < 18 := h0
  rw [if_pos h0, if_pos h0x, if_pos hx]
  by_cases hp : plainB (partsOf z.f0.toNat) (usesB z) = true
  ·rw [if_pos hp]
   exact ⟨fun h => ⟨h, h0.1, h0.2, hp⟩, fun h => h.1⟩
  ·rw [if_neg hp]
   exact ⟨fun h => by omega, fun h => absurd h.2.2.2 hp⟩
 ·rw [if_neg h0]
  exact ⟨fun h => by omega, fun h => absurd ⟨h.2.1, h.2.2.1⟩ h0⟩
theorem fresh0 (v : Int) (pk : PK) : Fresh (x0Of v) pk := by cases pk <;> first | rfl | trivial
theorem instr_iff (hb : Bytes bs) (S : Small G fs R V m) {last : Bool} {nx nx' : Nat} {locs locs' : Int} {z : S50} :
  instrR G fs R V m bs last nx locs = .ok (z, nx', locs') ↔ In64 z.f4 ∧ opE locs z last = 0 ∧ (∀ pk ∈ partsOf z.f0.toNat, partE G fs R V m z pk = 0) ∧ At bs nx (instrB z) ∧ nx' = nx + (instrB z).length ∧ locs' = locs + newL z := by
 have hy := byte_at hb nx
 have key : ∀ v : Int, 1 ≤ v → v < 18 → ∀ nx' : Nat, (partsR G fs R V m bs v.toNat (x0Of v) (nx + 1) (partsOf v.toNat).length = .ok (z, nx') ↔ fillL (x0Of v) (partsOf v.toNat) z = z ∧ In64 z.f4 ∧ nx' = nx + 1 + ((partsOf v.toNat).flatMap (putB z)).length ∧ (∀ pk ∈ partsOf v.toNat, partE G fs R V m z pk = 0) ∧ At bs (nx + 1) ((partsOf v.toNat).flatMap (putB z))) := by
  intro v h1 h2 nx'
  rw [parts_run _ _ _ _ (Nat.le_refl _), List.take_of_length_le (Nat.le_refl _)]
  have pa := parts_apart v.toNat (by omega)
  exact parts_iff hb S pa.1 (show In64 0 from ⟨by decide, by decide⟩) (fun pk _ => fresh0 v pk) pa.2
 unfold instrR
 constructor
 ·intro h
  split at h
  ·rename_i hl
   split at h
   ·rename_i ho
    have ho1 : 1 ≤ bs.getD nx 0 ∧ bs.getD nx 0 < 18 := by
     unfold opE at ho
     split at ho
     ·rename_i g; exact g
     ·omega
    cases e : partsR G fs R V m bs (bs.getD nx 0).toNat (x0Of (bs.getD nx 0)) (nx + 1) (partsOf (bs.getD nx 0).toNat).length with
    | error er => rw [e] at h; cases h
    | ok s =>
     rw [e] at h
     injection h with h
     obtain ⟨z1, nx1⟩ := s
     injection h with h3 h4
     injection h4 with h4 h5
     have h3 : z1 = z := h3
     have h4 : nx1 = nx' := h4
     subst h3; subst h4
     obtain ⟨k1, k2, k3, k4, k5⟩ := (key _ ho1.1 ho1.2 nx1).1 e
     have e0 : z1.f0 = bs.getD nx 0 := by rw [← k1]; exact fill_0 _ _ _
     rw [← e0] at k1 k3 k4 k5 ho ho1 h5
     have hby : byteI z1.f0 = bs.getD nx 0 := by rw [byteI_id (by omega) (by omega), e0]
     refine ⟨k2, (opE_x0 _ _ _).2 ⟨ho, ho1.1, ho1.2, (plain_iff z1 (by omega) ho1.2).2 k1⟩, k4, at_cons.2 ⟨hl, hby.symm, k5⟩, ?_, h5.symm⟩
     unfold instrB
     rw [List.length_cons, k3, Nat.add_assoc, Nat.add_comm 1]
   ·cases h
  ·cases h
 ·rintro ⟨h1, h2, h3, h4, h5, h6⟩
  obtain ⟨a1, a2, a3, a4⟩ := (opE_x0 _ _ _).1 h2
  obtain ⟨b1, b2, b3⟩ := at_cons.1 h4
  rw [byteI_id (by omega) (by omega)] at b2
  rw [if_pos b1, b2, if_pos a1, (key z.f0 a2 a3 nx').2 ⟨(plain_iff z (by omega) a3).1 a4, h1, by rw [h5]; unfold instrB; rw [List.length_cons, Nat.add_assoc, Nat.add_comm 1], h3, b3⟩, h6]
  rfl
theorem iter_succ {step : Nat → Int → Int × Int} {q : Nat} {l l' : Int} : iter step (q + 1) l = (0, l') ↔ ∃ l1, iter step q l = (0, l1) ∧ step q l1 = (0, l') := by
 constructor
 ·intro h
  by_cases e : (iter step q l).1 = 0
  ·refine ⟨(iter step q l).2, Prod.ext e rfl, ?_⟩
   rw [← h]
   show _ = if _ then _ else _
   rw [if_pos e]
  ·have := iter_stop e (q + 1) (by omega)
   rw [h] at this
   rw [← this] at e
   exact absurd rfl e
 ·rintro ⟨l1, h1, h2⟩
  rw [iter_next h1, h2]
theorem iter_congr {step step' : Nat → Int → Int × Int} {l : Int} : ∀ n : Nat, (∀ q, q < n → ∀ l, step q l = step' q l) → iter step n l = iter step' n l
 | 0, _ => rfl
 | n + 1, h => by
  have ih := iter_congr (l := l) n fun q hq => h q (by omega)
  show (if (iter step n l).1 = 0 then _ else _) = (if (iter step' n l).1 = 0 then _ else _)
  rw [ih, h n (by omega)]
def cS (G : Int) (fs : List S46) (R V m : Int) (c : List S50) (k : Nat) (l : Int) : Int × Int :=
 (if opE l (c.getD k z50) ((k : Int) == m - 1) = 0 ∧ ∀ pk ∈ partsOf (c.getD k z50).f0.toNat, partE G fs R V m (c.getD k z50) pk = 0 then 0 else 1, l + newL (c.getD k z50))
theorem cS_zero {c : List S50} {k : Nat} {l l' : Int} : cS G fs R V m c k l = (0, l') ↔ opE l (c.getD k z50) ((k : Int) == m - 1) = 0 ∧ (∀ pk ∈ partsOf (c.getD k z50).f0.toNat, partE G fs R V m (c.getD k z50) pk = 0) ∧ l' = l + newL (c.getD k z50) := by
 unfold cS
 constructor
 ·intro h
  injection h with h1 h2
  split at h1
  ·rename_i g; exact ⟨g.1, g.2, h2.symm⟩
  ·omega
 ·rintro ⟨h1, h2, h3⟩
  rw [if_pos ⟨h1, h2⟩, h3]
theorem getD_left {α : Type} (xs ys : List α) (z : α) (k : Nat) (h : k < xs.length) : (xs ++ ys).getD k z = xs.getD k z := by
 rw [List.getD_eq_getElem?_getD, List.getD_eq_getElem?_getD, List.getElem?_append_left h]
theorem getD_last {α : Type} (xs : List α) (x z : α) : (xs ++ [x]).getD xs.length z = x := by
 rw [List.getD_eq_getElem?_getD, List.getElem?_append_right (Nat.le_refl _), Nat.sub_self]
 rfl
theorem snoc_of {α : Type} {c : List α} {q : Nat} (h : c.length = q + 1) : ∃ c0 x, c = c0 ++ [x] ∧ c0.length = q := by
 rcases List.eq_nil_or_concat c with g | ⟨c0, x, g⟩
 ·rw [g] at h; cases h
 ·rw [List.concat_eq_append] at g
  refine ⟨c0, x, g, ?_⟩
  rw [g, List.length_append, List.length_singleton] at h
  omega
theorem flat_snoc {α : Type} (f : α → List Int) (c : List α) (x : α) : (c ++ [x]).flatMap f = c.flatMap f ++ f x := by
 rw [List.flatMap_append, List.flatMap_cons, List.flatMap_nil, List.append_nil]
theorem code_iff (hb : Bytes bs) (S : Small G fs R V m) {nx : Nat} {locs : Int} : ∀ {q nx' : Nat} {locs' : Int} {c : List S50},
  runE (codeStep G fs R V m bs) (nx, locs, []) q = .ok (nx', locs', c) ↔ c.length = q ∧ (∀ x ∈ c, In64 x.f4) ∧ iter (cS G fs R V m c) q locs = (0, locs') ∧ At bs nx (c.flatMap instrB) ∧ nx' = nx + (c.flatMap instrB).length
 | 0, nx', locs', c => by
  constructor
  ·intro h
   injection h with h
   injection h with h1 h2
   injection h2 with h2 h3
   subst h1; subst h2; subst h3
   exact ⟨rfl, (fun x hx => by cases hx), rfl, At.nil _ _, rfl⟩
  ·rintro ⟨h1, _, h2, _, h3⟩
   rw [List.eq_nil_of_length_eq_zero h1] at h3 ⊢
   injection h2 with _ h2
   have h2 : locs = locs' := h2
   subst h2; subst h3
   rfl
 | q + 1, nx', locs', c => by
  rw [runE_bind, bind_ok]
  constructor
  ·rintro ⟨⟨nx1, l1, c0⟩, h1, h2⟩
   obtain ⟨a1, a2, a3, a4, a5⟩ := (code_iff hb S).1 h1
   have h2 : (match instrR G fs R V m bs ((q : Int) == m - 1) nx1 l1 with | .error e => Except.error e | .ok t => Except.ok (t.2.1, t.2.2, c0 ++ [t.1])) = Except.ok (nx', locs', c) := h2
   cases e : instrR G fs R V m bs ((q : Int) == m - 1) nx1 l1 with
   | error er => rw [e] at h2; cases h2
   | ok t =>
    rw [e] at h2
    obtain ⟨x, nx2, l2⟩ := t
    injection h2 with h2
    injection h2 with h3 h4
    injection h4 with h4 h5
    have h3 : nx2 = nx' := h3
    have h4 : l2 = locs' := h4
    have h5 : c0 ++ [x] = c := h5
    subst h3; subst h4; subst h5
    obtain ⟨b1, b2, b3, b4, b5, b6⟩ := (instr_iff hb S).1 e
    refine ⟨by rw [List.length_append, a1]; rfl, fun y hy => ?_, iter_succ.2 ⟨l1, ?_, ?_⟩, ?_, ?_⟩
    ·rcases List.mem_append.1 hy with g | g
     ·exact a2 y g
     ·rw [List.mem_singleton] at g; rw [g]; exact b1
    ·rw [← a3]
     exact iter_congr q fun k hk l => by unfold cS; rw [getD_left _ _ _ _ (by omega)]
    ·have e : (c0 ++ [x]).getD q z50 = x := by rw [← a1]; exact getD_last _ _ _
     exact cS_zero.2 (by rw [e]; exact ⟨b2, b3, b6⟩)
    ·rw [flat_snoc, at_append]; exact ⟨a4, by rw [← a5]; exact b4⟩
    ·rw [flat_snoc, List.length_append, b5, a5, Nat.add_assoc]
  ·rintro ⟨h1, h2, h3, h4, h5⟩
   obtain ⟨c0, x, rfl, hl⟩ := snoc_of h1
   obtain ⟨l1, g1, g2⟩ := iter_succ.1 h3
   have e : (c0 ++ [x]).getD q z50 = x := by rw [← hl]; exact getD_last _ _ _
   obtain ⟨k1, k2, k3⟩ := cS_zero.1 g2
   rw [e] at k1 k2 k3
   rw [flat_snoc, at_append] at h4
   rw [flat_snoc, List.length_append] at h5
   refine ⟨(nx + (c0.flatMap instrB).length, l1, c0), (code_iff hb S).2 ⟨hl, fun y hy => h2 y (List.mem_append_left _ hy), ?_, h4.1, rfl⟩, ?_⟩
   ·rw [← g1]
    exact iter_congr q fun k hk l => by unfold cS; rw [getD_left _ _ _ _ (by omega)]
   ·show (match instrR G fs R V m bs ((q : Int) == m - 1) (nx + (c0.flatMap instrB).length) l1 with | .error e => Except.error e | .ok t => Except.ok (t.2.1, t.2.2, c0 ++ [t.1])) = _
    rw [(instr_iff hb S).2 ⟨h2 x (List.mem_append_right _ (List.mem_singleton.2 rfl)), k1, k2, h4.2, rfl, rfl⟩, h5, k3, Nat.add_assoc]
end
theorem partE_heads {fs fs' : List S46} (hl : fs.length = fs'.length) (h : ∀ i, (fs.getD i z46).f0 = (fs'.getD i z46).f0 ∧ (fs.getD i z46).f1 = (fs'.getD i z46).f1) (G R V m : Int) (x : S50) (pk : PK) : partE G fs R V m x pk = partE G fs' R V m x pk := by
 cases pk
 case func => show numE _ _ _ _ = numE _ _ _ _; rw [hl]
 case args => show listE _ _ _ = listE _ _ _; rw [(h _).1]
 case rets => show listE _ _ _ = listE _ _ _; rw [(h _).2]
 all_goals rfl
theorem cS_heads {fs fs' : List S46} (hl : fs.length = fs'.length) (h : ∀ i, (fs.getD i z46).f0 = (fs'.getD i z46).f0 ∧ (fs.getD i z46).f1 = (fs'.getD i z46).f1) (G R V m : Int) (c : List S50) (k : Nat) (l : Int) : cS G fs R V m c k l = cS G fs' R V m c k l := by
 unfold cS
 simp only [partE_heads hl h]
def fS (G : Int) (fs0 : List S46) (bs : List Int) (cs : List (List S50)) (k : Nat) (l : Int) : Int × Int :=
 iter (cS G fs0 (hvOf bs (9 + 5 * k)).R (hvOf bs (9 + 5 * k)).V (hvN bs (9 + 5 * k)) (cs.getD k [])) (hvN bs (9 + 5 * k)).toNat l
section
variable {G : Int} {fs0 : List S46} {bs : List Int}
theorem funcs_iff (hb : Bytes bs) {n : Nat} (S : ∀ k, k < n → Small G fs0 (hvOf bs (9 + 5 * k)).R (hvOf bs (9 + 5 * k)).V (hvN bs (9 + 5 * k))) {nx : Nat} {locs : Int} : ∀ {q nx' : Nat} {locs' : Int} {cs : List (List S50)}, q ≤ n →
  (runE (funcStep G fs0 bs) (nx, locs, []) q = .ok (nx', locs', cs) ↔ cs.length = q ∧ (∀ k, k < q → (cs.getD k []).length = (hvN bs (9 + 5 * k)).toNat) ∧ (∀ c ∈ cs, ∀ x ∈ c, In64 x.f4) ∧ iter (fS G fs0 bs cs) q locs = (0, locs') ∧ At bs nx (cs.flatMap fun c => c.flatMap instrB) ∧ nx' = nx + (cs.flatMap fun c => c.flatMap instrB).length)
 | 0, nx', locs', c, _ => by
  constructor
  ·intro h
   injection h with h
   injection h with h1 h2
   injection h2 with h2 h3
   subst h1; subst h2; subst h3
   exact ⟨rfl, (fun k hk => by omega), (fun x hx => by cases hx), rfl, At.nil _ _, rfl⟩
  ·rintro ⟨h1, _, _, h2, _, h3⟩
   rw [List.eq_nil_of_length_eq_zero h1] at h3 ⊢
   injection h2 with _ h2
   have h2 : locs = locs' := h2
   subst h2; subst h3
   rfl
 | q + 1, nx', locs', c, hq => by
  rw [runE_bind, bind_ok]
  constructor
  ·rintro ⟨⟨nx1, l1, c0⟩, h1, h2⟩
   obtain ⟨a1, a0, a2, a3, a4, a5⟩ := (funcs_iff hb S (by omega)).1 h1
   have h2 : (match runE (codeStep G fs0 (hvOf bs (9 + 5 * q)).R (hvOf bs (9 + 5 * q)).V (hvN bs (9 + 5 * q)) bs) (nx1, l1, []) (hvN bs (9 + 5 * q)).toNat with | .error e => Except.error e | .ok t => Except.ok (t.1, t.2.1, c0 ++ [t.2.2])) = Except.ok (nx', locs', c) := h2
   cases e : runE (codeStep G fs0 (hvOf bs (9 + 5 * q)).R (hvOf bs (9 + 5 * q)).V (hvN bs (9 + 5 * q)) bs) (nx1, l1, []) (hvN bs (9 + 5 * q)).toNat with
   | error er => rw [e] at h2; cases h2
   | ok t =>
    rw [e] at h2
    obtain ⟨nx2, l2, x⟩ := t
    injection h2 with h2
    injection h2 with h3 h4
    injection h4 with h4 h5
    have h3 : nx2 = nx' := h3
    have h4 : l2 = locs' := h4
    have h5 : c0 ++ [x] = c := h5
    subst h3; subst h4; subst h5
    obtain ⟨b1, b2, b3, b4, b5⟩ := (code_iff hb (S q (by omega))).1 e
    have ex : (c0 ++ [x]).getD q [] = x := by rw [← a1]; exact getD_last _ _ _
    refine ⟨by rw [List.length_append, a1]; rfl, fun k hk => ?_, fun y hy => ?_, iter_succ.2 ⟨l1, ?_, ?_⟩, ?_, ?_⟩
    ·rcases Nat.lt_or_ge k q with g | g
     ·rw [getD_left _ _ _ _ (by omega)]; exact a0 k g
     ·obtain rfl : k = q := by omega
      rw [ex, b1]
    ·rcases List.mem_append.1 hy with g | g
     ·exact a2 y g
     ·rw [List.mem_singleton] at g; rw [g]; exact b2
    ·rw [← a3]
     exact iter_congr q fun k hk l => by unfold fS; rw [getD_left _ _ _ _ (by omega)]
    ·unfold fS; rw [ex]; exact b3
    ·rw [flat_snoc, at_append]; exact ⟨a4, by rw [← a5]; exact b4⟩
    ·rw [flat_snoc, List.length_append, b5, a5, Nat.add_assoc]
  ·rintro ⟨h1, h0, h2, h3, h4, h5⟩
   obtain ⟨c0, x, rfl, hl⟩ := snoc_of h1
   obtain ⟨l1, g1, g2⟩ := iter_succ.1 h3
   have ex : (c0 ++ [x]).getD q [] = x := by rw [← hl]; exact getD_last _ _ _
   have hx := h0 q (by omega)
   rw [ex] at hx
   unfold fS at g2
   rw [ex] at g2
   rw [flat_snoc, at_append] at h4
   rw [flat_snoc, List.length_append] at h5
   refine ⟨(nx + (c0.flatMap fun c => c.flatMap instrB).length, l1, c0), (funcs_iff hb S (by omega)).2 ⟨hl, fun k hk => ?_, fun y hy => h2 y (List.mem_append_left _ hy), ?_, h4.1, rfl⟩, ?_⟩
   ·have := h0 k (by omega)
    rw [getD_left _ _ _ _ (by omega)] at this
    exact this
   ·rw [← g1]
    exact iter_congr q fun k hk l => by unfold fS; rw [getD_left _ _ _ _ (by omega)]
   ·show (match runE (codeStep G fs0 (hvOf bs (9 + 5 * q)).R (hvOf bs (9 + 5 * q)).V (hvN bs (9 + 5 * q)) bs) (nx + (c0.flatMap fun c => c.flatMap instrB).length, l1, []) (hvN bs (9 + 5 * q)).toNat with | .error e => Except.error e | .ok t => Except.ok (t.1, t.2.1, c0 ++ [t.2.2])) = _
    rw [(code_iff hb (S q (by omega))).2 ⟨hx, h2 x (List.mem_append_right _ (List.mem_singleton.2 rfl)), g2, h4.2, rfl⟩, h5, Nat.add_assoc]
def hS (bs : List Int) (q : Nat) (l : Int) : Int × Int := (hvE bs (9 + 5 * q) l, l + (hvOf bs (9 + 5 * q)).V)
theorem heads_iff {n : Nat} : ∀ {l : Int}, 9 ≤ bs.length → (runE (headStep bs) 0 n = .ok l ↔ 9 + 5 * n ≤ bs.length ∧ iter (hS bs) n 0 = (0, l)) := by
 induction n with
 | zero =>
  intro l h9
  constructor
  ·intro h
   injection h with h
   have h : (0 : Int) = l := h
   subst h
   exact ⟨h9, rfl⟩
  ·rintro ⟨_, h⟩
   injection h with _ h
   have h : (0 : Int) = l := h
   subst h
   rfl
 | succ n ih =>
  intro l h9
  rw [runE_bind, bind_ok]
  have hs : ∀ l1, headStep bs n l1 = .ok l ↔ 9 + 5 * (n + 1) ≤ bs.length ∧ hS bs n l1 = (0, l) := by
   intro l1
   unfold headStep hS
   constructor
   ·intro h
    split at h
    ·rename_i c
     split at h
     ·rename_i e
      injection h with h
      exact ⟨by omega, by rw [e, h]⟩
     ·cases h
    ·cases h
   ·rintro ⟨h1, h2⟩
    injection h2 with h2 h3
    rw [if_pos (by omega), if_pos h2, h3]
  constructor
  ·rintro ⟨l1, h1, h2⟩
   exact ⟨((hs l1).1 h2).1, iter_succ.2 ⟨l1, ((ih h9).1 h1).2, ((hs l1).1 h2).2⟩⟩
  ·rintro ⟨h1, h2⟩
   obtain ⟨l1, g1, g2⟩ := iter_succ.1 h2
   exact ⟨l1, (ih h9).2 ⟨by omega, g1⟩, (hs l1).2 ⟨h1, g2⟩⟩
end
theorem head_at {bs : List Int} (hb : Bytes bs) {p : Nat} {f : S46} (h0 : 0 ≤ f.f0 ∧ f.f0 ≤ 255) (h1 : 0 ≤ f.f1 ∧ f.f1 ≤ 255) (h2 : 0 ≤ f.f2 ∧ f.f2 ≤ 255) (h3 : f.f3.length ≤ 65535) :
  At bs p (headL f) ↔ p + 5 ≤ bs.length ∧ (hvOf bs p).P = f.f0 ∧ (hvOf bs p).R = f.f1 ∧ (hvOf bs p).V = f.f2 ∧ hvN bs p = f.f3.length := by
 unfold headL
 rw [at_cons, at_cons, at_cons, at_cons, at_cons, byteI_id h0.1 h0.2, byteI_id h1.1 h1.2, byteI_id h2.1 h2.2]
 have b3 := byte_at hb (p + 3)
 have b4 := byte_at hb (p + 4)
 unfold hvN byteI
 show _ ↔ p + 5 ≤ bs.length ∧ bs.getD p 0 = f.f0 ∧ bs.getD (p + 1) 0 = f.f1 ∧ bs.getD (p + 2) 0 = f.f2 ∧ _
 have e2 : p + 1 + 1 = p + 2 := rfl
 have e3 : p + 1 + 1 + 1 = p + 3 := rfl
 have e4 : p + 1 + 1 + 1 + 1 = p + 4 := rfl
 rw [e4, e3, e2]
 constructor
 ·rintro ⟨a, b, c, d, e, f_, g, h, i, j, _⟩
  exact ⟨by omega, b, d, f_, by omega⟩
 ·rintro ⟨a, b, c, d, e⟩
  exact ⟨by omega, b, by omega, c, by omega, d, by omega, by omega, by omega, by omega, At.nil _ _⟩
def HeadIs (bs : List Int) (p : Nat) (f : S46) : Prop := (hvOf bs p).P = f.f0 ∧ (hvOf bs p).R = f.f1 ∧ (hvOf bs p).V = f.f2 ∧ hvN bs p = f.f3.length
def HeadOk (f : S46) : Prop := (0 ≤ f.f0 ∧ f.f0 ≤ 255) ∧ (0 ≤ f.f1 ∧ f.f1 ≤ 255) ∧ (0 ≤ f.f2 ∧ f.f2 ≤ 255) ∧ f.f3.length ≤ 65535
theorem heads_at {bs : List Int} (hb : Bytes bs) : ∀ (fs : List S46) (p : Nat), p ≤ bs.length → (∀ f ∈ fs, HeadOk f) → (At bs p (fs.flatMap headL) ↔ p + 5 * fs.length ≤ bs.length ∧ ∀ i, i < fs.length → HeadIs bs (p + 5 * i) (fs.getD i z46))
 | [], p, hp, _ => ⟨fun _ => ⟨hp, fun i hi => by cases hi⟩, fun _ => At.nil _ _⟩
 | f :: fs, p, hp, hf => by
  obtain ⟨g0, g1, g2, g3⟩ := hf f List.mem_cons_self
  have hh := head_at hb (p := p) g0 g1 g2 g3
  rw [List.flatMap_cons, at_append, hh, show (headL f).length = 5 from rfl]
  constructor
  ·rintro ⟨⟨a, b⟩, c⟩
   obtain ⟨c1, c2⟩ := (heads_at hb fs (p + 5) a fun x hx => hf x (List.mem_cons_of_mem _ hx)).1 c
   refine ⟨by rw [List.length_cons]; omega, fun i hi => ?_⟩
   rcases i with _ | i
   ·exact b
   ·have := c2 i (by rw [List.length_cons] at hi; omega)
    rw [show p + 5 + 5 * i = p + 5 * (i + 1) by omega] at this
    exact this
  ·rintro ⟨a, b⟩
   rw [List.length_cons] at a
   refine ⟨⟨by omega, b 0 (by rw [List.length_cons]; omega)⟩, (heads_at hb fs (p + 5) (by omega) fun x hx => hf x (List.mem_cons_of_mem _ hx)).2 ⟨by omega, fun i hi => ?_⟩⟩
   have := b (i + 1) (by rw [List.length_cons]; omega)
   rw [show p + 5 * (i + 1) = p + 5 + 5 * i by omega] at this
   exact this
theorem flat_heads (fs : List S46) : (fs.flatMap headL).length = 5 * fs.length := by
 induction fs with
 | nil => rfl
 | cons f fs ih => rw [List.flatMap_cons, List.length_append, ih, List.length_cons, show (headL f).length = 5 from rfl]; omega
theorem headE_small {l P R V n : Int} (h : headE l P R V n = 0) : 0 ≤ P ∧ P ≤ 8 ∧ P ≤ V ∧ 0 ≤ R ∧ R ≤ 4 ∧ V ≤ 255 ∧ 1 ≤ n ∧ n ≤ 4096 := by
 unfold headE at h
 by_cases hb : headB P R V n = true
 ·rw [if_pos hb] at h
  unfold headB at hb
  simp only [Bool.and_eq_true, decide_eq_true_eq] at hb
  by_cases h1 : 1 ≤ n
  ·omega
  ·rw [if_neg h1] at h; omega
 ·rw [if_neg hb] at h; omega
theorem iter_all0 {step : Nat → Int → Int × Int} {n : Nat} {l l' : Int} (h : iter step n l = (0, l')) (q : Nat) (hq : q < n) : ∃ l1, (step q l1).1 = 0 := by
 obtain ⟨l1, _, h1⟩ := iter_all (step := step) (n := n) (l := l) (by rw [h]) q hq
 exact ⟨l1, h1⟩
theorem partsE_zero {G : Int} {fs : List S46} {f : S46} {x : S50} : partsE G fs f x = 0 ↔ ∀ pk ∈ partsOf x.f0.toNat, partE G fs f.f1 f.f2 f.f3.length x pk = 0 := by
 unfold partsE
 constructor
 ·intro h pk hp
  obtain ⟨q, hq, e⟩ := List.getElem_of_mem hp
  obtain ⟨l1, _, h1⟩ := iter_all h q hq
  unfold partS at h1
  rw [List.getD_eq_getElem?_getD, List.getElem?_eq_getElem hq] at h1
  rw [← e]
  exact h1
 ·intro h
  have gen : ∀ n, n ≤ (partsOf x.f0.toNat).length → iter (partS G fs f x) n 0 = (0, 0) := by
   intro n
   induction n with
   | zero => intro _; rfl
   | succ n ih =>
    intro hn
    rw [iter_next (ih (by omega))]
    unfold partS
    rw [List.getD_eq_getElem?_getD, List.getElem?_eq_getElem (by omega : n < (partsOf x.f0.toNat).length)]
    exact Prod.ext (h _ (List.getElem_mem _)) rfl
  rw [gen _ (Nat.le_refl _)]
theorem instrS_zero {G : Int} {fs : List S46} {f : S46} {q : Nat} {l l' : Int} (hq : q < f.f3.length) : instrS G fs f q l = (0, l') ↔ cS G fs f.f1 f.f2 f.f3.length f.f3 q l = (0, l') := by
 rw [cS_zero, ← partsE_zero]
 have hlast : ((q : Int) == (f.f3.length : Int) - 1) = (q + 1 == f.f3.length) := by
  rw [Bool.eq_iff_iff, beq_iff_eq, beq_iff_eq]; omega
 rw [hlast]
 unfold instrS
 constructor
 ·intro h
  injection h with h1 h2
  split at h1
  ·rename_i e; exact ⟨e, h1, h2.symm⟩
  ·rename_i e; exact absurd h1 e
 ·rintro ⟨h1, h2, h3⟩
  rw [if_pos h1, h2, h3]
theorem iter_zero {step step' : Nat → Int → Int × Int} {l : Int} : ∀ (n : Nat) (l' : Int), (∀ q, q < n → ∀ l l', step q l = (0, l') ↔ step' q l = (0, l')) → (iter step n l = (0, l') ↔ iter step' n l = (0, l'))
 | 0, l', _ => Iff.rfl
 | n + 1, l', h => by
  rw [iter_succ, iter_succ]
  constructor
  ·rintro ⟨l1, h1, h2⟩; exact ⟨l1, (iter_zero n l1 fun q hq => h q (by omega)).1 h1, (h n (by omega) _ _).1 h2⟩
  ·rintro ⟨l1, h1, h2⟩; exact ⟨l1, (iter_zero n l1 fun q hq => h q (by omega)).2 h1, (h n (by omega) _ _).2 h2⟩
theorem firstE_zero {G : Int} {fs : List S46} : firstE G fs = 0 ↔ globE G = 0 ∧ funcsE fs.length = 0 ∧ ∃ l l', iter (headS fs) fs.length 0 = (0, l) ∧ iter (codeS G fs) fs.length l = (0, l') := by
 unfold firstE
 constructor
 ·intro h
  split at h
  ·rename_i e1
   split at h
   ·rename_i e2
    split at h
    ·rename_i e3
     exact ⟨e1, e2, _, _, Prod.ext e3 rfl, Prod.ext h rfl⟩
    ·rename_i e; exact absurd h e
   ·rename_i e; exact absurd h e
  ·rename_i e; exact absurd h e
 ·rintro ⟨h1, h2, l, l', h3, h4⟩
  rw [if_pos h1, if_pos h2, h3, if_pos rfl, h4]
theorem withCode_len {hs : List HV} {cs : List (List S50)} (h : hs.length = cs.length) : (withCode hs cs).length = cs.length := by unfold withCode; rw [List.length_zipWith]; omega
theorem withCode_get {hs : List HV} {cs : List (List S50)} (h : hs.length = cs.length) (i : Nat) (hi : i < cs.length) : (withCode hs cs).getD i z46 = ⟨(hs.getD i hv0).P, (hs.getD i hv0).R, (hs.getD i hv0).V, cs.getD i []⟩ := by
 unfold withCode
 rw [List.getD_eq_getElem?_getD, List.getElem?_zipWith, List.getElem?_eq_getElem (by omega), List.getElem?_eq_getElem hi, List.getD_eq_getElem?_getD, List.getElem?_eq_getElem (by omega), List.getD_eq_getElem?_getD, List.getElem?_eq_getElem hi]
 rfl
theorem ext46 {fs fs' : List S46} (hl : fs.length = fs'.length) (h : ∀ i, i < fs.length → fs.getD i z46 = fs'.getD i z46) : fs = fs' := by
 apply List.ext_getElem hl
 intro i h1 h2
 have := h i h1
 rw [getD46 _ _ h1, getD46 _ _ h2] at this
 exact this
theorem magic_at {bs : List Int} : At bs 0 magicL ↔ bs.take 6 = magicL.take bs.length ∧ 6 ≤ bs.length := by
 constructor
 ·rintro ⟨t, h⟩
  rw [List.drop_zero] at h
  have hl : 6 ≤ bs.length := by rw [← h, List.length_append]; show 6 ≤ 6 + _; omega
  refine ⟨?_, hl⟩
  rw [List.take_of_length_le (show magicL.length ≤ bs.length from hl), ← h]
  exact (List.take_left (l₁ := magicL) (l₂ := t))
 ·rintro ⟨h1, h2⟩
  rw [List.take_of_length_le (show magicL.length ≤ bs.length from h2)] at h1
  exact ⟨bs.drop 6, by rw [← h1, List.drop_zero]; exact List.take_append_drop 6 bs⟩
theorem globE_ok {G : Int} : globE G = 0 ↔ 0 ≤ G ∧ G ≤ 16 := by
 unfold globE
 split
 ·rename_i h; exact ⟨fun _ => h, fun _ => rfl⟩
 ·rename_i h; exact ⟨fun e => by omega, fun e => absurd e h⟩
theorem funcsE_ok {n : Int} : funcsE n = 0 ↔ 1 ≤ n ∧ n ≤ 65535 := by
 unfold funcsE
 split
 ·rename_i h; exact ⟨fun _ => h, fun _ => rfl⟩
 ·rename_i h; exact ⟨fun e => by omega, fun e => absurd e h⟩
theorem fs0_get (bs : List Int) (n i : Nat) (h : i < n) : (fsOf (hsOf bs n)).getD i z46 = ⟨(hvOf bs (9 + 5 * i)).P, (hvOf bs (9 + 5 * i)).R, (hvOf bs (9 + 5 * i)).V, []⟩ := by
 unfold fsOf hsOf
 rw [List.getD_eq_getElem?_getD, List.getElem?_map, List.getElem?_map, List.getElem?_range h]
 rfl
theorem fs0_len (bs : List Int) (n : Nat) : (fsOf (hsOf bs n)).length = n := by unfold fsOf hsOf; simp
theorem small_of {G : Int} {bs : List Int} {n : Nat} {l : Int} (hG : globE G = 0) (hn : n ≤ 65535) (hH : iter (hS bs) n 0 = (0, l)) : ∀ k, k < n → Small G (fsOf (hsOf bs n)) (hvOf bs (9 + 5 * k)).R (hvOf bs (9 + 5 * k)).V (hvN bs (9 + 5 * k)) := by
 have hs : ∀ k, k < n → 0 ≤ (hvOf bs (9 + 5 * k)).P ∧ (hvOf bs (9 + 5 * k)).P ≤ 8 ∧ (hvOf bs (9 + 5 * k)).P ≤ (hvOf bs (9 + 5 * k)).V ∧ 0 ≤ (hvOf bs (9 + 5 * k)).R ∧ (hvOf bs (9 + 5 * k)).R ≤ 4 ∧ (hvOf bs (9 + 5 * k)).V ≤ 255 ∧ 1 ≤ hvN bs (9 + 5 * k) ∧ hvN bs (9 + 5 * k) ≤ 4096 := fun k hk => by
  obtain ⟨l1, h1⟩ := iter_all0 hH k hk
  exact headE_small (show headE l1 _ _ _ _ = 0 from h1)
 have g := globE_ok.1 hG
 have gt : ∀ i, ((fsOf (hsOf bs n)).getD i z46).f0 ≤ 255 ∧ ((fsOf (hsOf bs n)).getD i z46).f1 ≤ 255 := fun i => by
  rcases Nat.lt_or_ge i n with h | h
  ·rw [fs0_get bs n i h]
   have := hs i h
   exact ⟨by show (hvOf bs (9 + 5 * i)).P ≤ 255; omega, by show (hvOf bs (9 + 5 * i)).R ≤ 255; omega⟩
  ·rw [List.getD_eq_getElem?_getD, List.getElem?_eq_none (by rw [fs0_len]; exact h)]
   decide
 intro k hk
 have := hs k hk
 exact ⟨by omega, by rw [fs0_len]; exact hn, by omega, by omega, by omega, fun i => (gt i).1, fun i => (gt i).2⟩
structure Fit (bs : List Int) (n : Nat) (fs : List S46) (cs : List (List S50)) : Prop where
 len : fs.length = n
 clen : cs.length = n
 get : ∀ i, i < n → fs.getD i z46 = ⟨(hvOf bs (9 + 5 * i)).P, (hvOf bs (9 + 5 * i)).R, (hvOf bs (9 + 5 * i)).V, cs.getD i []⟩
 sz : ∀ i, i < n → ((cs.getD i []).length : Int) = hvN bs (9 + 5 * i)
theorem Fit.head {bs : List Int} {n : Nat} {fs : List S46} {cs : List (List S50)} (F : Fit bs n fs cs) (q : Nat) (hq : q < n) (l : Int) : headS fs q l = hS bs q l := by
 unfold headS hS hvE
 rw [F.get q hq, ← F.sz q hq]
theorem Fit.code {bs : List Int} {n : Nat} {fs : List S46} {cs : List (List S50)} (F : Fit bs n fs cs) (G : Int) (q : Nat) (hq : q < n) (l l' : Int) : codeS G fs q l = (0, l') ↔ fS G (fsOf (hsOf bs n)) bs cs q l = (0, l') := by
 unfold codeS fS
 rw [← F.sz q hq, Int.toNat_natCast]
 have e : (fs.getD q z46).f3 = cs.getD q [] := by rw [F.get q hq]
 rw [e]
 refine iter_zero _ _ fun k hk l l' => ?_
 rw [instrS_zero (by rw [e]; exact hk), e, show (fs.getD q z46).f1 = (hvOf bs (9 + 5 * q)).R by rw [F.get q hq], show (fs.getD q z46).f2 = (hvOf bs (9 + 5 * q)).V by rw [F.get q hq]]
 rw [cS_heads (fs := fs) (fs' := fsOf (hsOf bs n)) (by rw [F.len, fs0_len]) (fun i => ?_)]
 rcases Nat.lt_or_ge i n with h | h
 ·rw [F.get i h, fs0_get bs n i h]
  exact ⟨rfl, rfl⟩
 ·rw [List.getD_eq_getElem?_getD, List.getElem?_eq_none (by rw [F.len]; exact h), List.getD_eq_getElem?_getD, List.getElem?_eq_none (by rw [fs0_len]; exact h)]
  exact ⟨rfl, rfl⟩
theorem Fit.headIs {bs : List Int} {n : Nat} {fs : List S46} {cs : List (List S50)} (F : Fit bs n fs cs) (i : Nat) (h : i < n) : HeadIs bs (9 + 5 * i) (fs.getD i z46) := by
 rw [F.get i h]
 exact ⟨rfl, rfl, rfl, (F.sz i h).symm⟩
theorem top_at {bs : List Int} (hb : Bytes bs) {G : Int} {n : Nat} (hG : 0 ≤ G ∧ G ≤ 16) (hn : n ≤ 65535) : At bs 0 ([102, 117, 103, 117, 101, 1] ++ [byteI G, byteI n, byteI ((n : Int) / 256)]) ↔ bs.take 6 = magicL.take bs.length ∧ 9 ≤ bs.length ∧ bs.getD 6 0 = G ∧ cntOf bs = n := by
 rw [at_append, show ([102, 117, 103, 117, 101, 1] : List Int) = magicL from rfl, magic_at, show 0 + magicL.length = 6 from rfl, at_cons, at_cons, at_cons]
 have b7 := byte_at hb 7
 have b8 := byte_at hb 8
 unfold cntOf byteI
 show (_ ∧ _) ∧ 6 + 1 ≤ bs.length ∧ bs.getD 6 0 = _ ∧ 7 + 1 ≤ bs.length ∧ bs.getD 7 0 = _ ∧ 8 + 1 ≤ bs.length ∧ bs.getD 8 0 = _ ∧ _ ↔ _
 constructor
 ·rintro ⟨⟨a, b⟩, c, d, e, f, g, h, _⟩
  exact ⟨a, by omega, by omega, by omega⟩
 ·rintro ⟨a, b, c, d⟩
  exact ⟨⟨a, by omega⟩, by omega, by omega, by omega, by omega, by omega, by omega, At.nil _ _⟩
theorem codes_eq {bs : List Int} {n : Nat} {fs : List S46} {cs : List (List S50)} (F : Fit bs n fs cs) : fs.flatMap (fun f => f.f3.flatMap instrB) = cs.flatMap fun c => c.flatMap instrB := by
 have e : fs.map (fun f => f.f3) = cs := by
  apply List.ext_getElem (by rw [List.length_map, F.len, F.clen])
  intro i h1 h2
  rw [List.length_map] at h1
  rw [List.getElem_map]
  have := F.get i (by rw [← F.len]; exact h1)
  rw [getD46 _ _ h1] at this
  rw [this, List.getD_eq_getElem?_getD, List.getElem?_eq_getElem h2]
  rfl
 rw [← e, List.flatMap_map]
theorem decR_iff {bs : List Int} (hb : Bytes bs) {G : Int} {fs : List S46} : decR bs = .ok (G, fs) ↔ firstE G fs = 0 ∧ encB G fs = bs ∧ ∀ f ∈ fs, ∀ x ∈ f.f3, In64 x.f4 := by
 constructor
 ·intro h
  unfold decR at h
  split at h
  case isFalse => cases h
  rename_i c1
  split at h
  case isFalse => cases h
  rename_i c2
  split at h
  case isFalse => cases h
  rename_i c3
  split at h
  case isFalse => cases h
  rename_i c4
  split at h
  case isFalse => cases h
  rename_i c5
  split at h
  case isFalse => cases h
  rename_i c6
  have c6b := funcsE_ok.1 c6
  obtain ⟨n, hn⟩ := Int.eq_ofNat_of_zero_le (show 0 ≤ cntOf bs by omega)
  rw [hn, Int.toNat_natCast] at h
  rw [hn] at c6b
  cases e1 : runE (headStep bs) 0 n with
  | error er => rw [e1] at h; cases h
  | ok l =>
   rw [e1] at h
   obtain ⟨k1, k2⟩ := (heads_iff c5).1 e1
   have S := small_of c4 (by omega) k2
   cases e2 : runE (funcStep (bs.getD 6 0) (fsOf (hsOf bs n)) bs) (9 + 5 * n, l, []) n with
   | error er => simp only [e2] at h; cases h
   | ok s =>
    simp only [e2] at h
    split at h
    case isFalse => cases h
    rename_i c7
    injection h with h
    injection h with h8 h9
    obtain ⟨nx', l', cs⟩ := s
    obtain ⟨f1, f2, f3, f4, f5, f6⟩ := (funcs_iff hb S (Nat.le_refl n)).1 e2
    have hsl : (hsOf bs n).length = cs.length := by rw [hsOf_len, f1]
    have sz : ∀ i, i < n → ((cs.getD i []).length : Int) = hvN bs (9 + 5 * i) := fun i hi => by
     have := f2 i hi
     obtain ⟨l1, h1⟩ := iter_all0 k2 i hi
     have := headE_small (show headE l1 _ _ _ _ = 0 from h1)
     omega
    have F : Fit bs n fs cs := by
     refine ⟨by rw [← h9]; exact (withCode_len hsl).trans f1, f1, fun i hi => ?_, sz⟩
     rw [← h9]
     have := withCode_get hsl i (by rw [f1]; exact hi)
     rw [(getD_hs bs n i hi).1] at this
     exact this
    rw [h8] at c4 f4
    have hG := globE_ok.1 c4
    have hok : ∀ f ∈ fs, HeadOk f := fun f hf => by
     obtain ⟨i, hi, e⟩ := List.getElem_of_mem hf
     have hi2 : i < n := by rw [← F.len]; exact hi
     have hg := F.get i hi2
     rw [getD46 _ _ hi, e] at hg
     obtain ⟨l1, h1⟩ := iter_all0 k2 i hi2
     have hs := headE_small (show headE l1 _ _ _ _ = 0 from h1)
     have := sz i hi2
     rw [hg]
     refine ⟨⟨?_, ?_⟩, ⟨?_, ?_⟩, ⟨?_, ?_⟩, ?_⟩ <;> dsimp only <;> omega
    refine ⟨firstE_zero.2 ⟨c4, funcsE_ok.2 (by rw [F.len]; exact c6b), l, l', ?_, ?_⟩, ?_, ?_⟩
    ·rw [F.len, ← k2]
     exact iter_congr n fun q hq l => F.head q hq l
    ·rw [F.len]
     exact (iter_zero n l' fun q hq l l' => F.code G q hq l l').2 f4
    ·apply at_all
     ·unfold encB topL
      rw [at_append, at_append, F.len, top_at hb hG (by omega)]
      refine ⟨⟨⟨c1, c5, h8, hn⟩, ?_⟩, ?_⟩
      ·refine (heads_at hb fs _ (show 0 + 9 ≤ _ from by omega) hok).2 ⟨by rw [F.len]; show 0 + 9 + _ ≤ _; omega, fun i hi => ?_⟩
       exact F.headIs i (by rw [← F.len]; exact hi)
      ·rw [codes_eq F]
       rw [List.length_append, flat_heads, F.len]
       rw [show 9 + 5 * n = 0 + (9 + 5 * n) by omega] at f5
       exact f5
     ·unfold encB topL
      rw [List.length_append, List.length_append, flat_heads, F.len, codes_eq F]
      show 9 + _ + _ = _
      rw [← c7, f6]
    ·intro f hf x hx
     obtain ⟨i, hi, e⟩ := List.getElem_of_mem hf
     have hi2 : i < n := by rw [← F.len]; exact hi
     have := F.get i hi2
     rw [getD46 _ _ hi, e] at this
     subst f
     rw [this] at hx
     have hx : x ∈ cs.getD i [] := hx
     rw [List.getD_eq_getElem?_getD, List.getElem?_eq_getElem (by rw [f1]; exact hi2)] at hx
     exact f3 _ (List.getElem_mem (by rw [f1]; exact hi2)) x hx
 ·rintro ⟨h1, h2, h3⟩
  obtain ⟨c4, c6, l, l', k3, k4⟩ := firstE_zero.1 h1
  have c6b := funcsE_ok.1 c6
  have hG := globE_ok.1 c4
  obtain ⟨n, hn⟩ : ∃ n, n = fs.length := ⟨_, rfl⟩
  have hok : ∀ f ∈ fs, HeadOk f := fun f hf => by
   obtain ⟨i, hi, e⟩ := List.getElem_of_mem hf
   obtain ⟨l1, g1⟩ := iter_all0 k3 i hi
   have hs := headE_small (show headE l1 _ _ _ _ = 0 from g1)
   rw [getD46 _ _ hi, e] at hs
   exact ⟨⟨by omega, by omega⟩, ⟨by omega, by omega⟩, ⟨by omega, by omega⟩, by omega⟩
  have hat : At bs 0 (encB G fs) := by rw [h2]; exact at_self bs
  have hlen := congrArg List.length h2
  unfold encB topL at hat hlen
  rw [at_append, at_append, top_at hb hG (by omega)] at hat
  obtain ⟨⟨⟨c1, c5, h8, h9⟩, hh⟩, hc⟩ := hat
  rw [List.length_append, List.length_append, flat_heads] at hlen
  have hlen : 9 + 5 * fs.length + (fs.flatMap fun f => f.f3.flatMap instrB).length = bs.length := hlen
  obtain ⟨d1, d2⟩ := (heads_at hb fs _ (show 0 + 9 ≤ _ from by omega) hok).1 hh
  have HI : ∀ i, i < n → HeadIs bs (9 + 5 * i) (fs.getD i z46) := fun i hi => by
   exact d2 i (by rw [← hn]; exact hi)
  have F : Fit bs n fs (fs.map fun f => f.f3) := by
   have eg : ∀ i, i < n → (fs.map fun f => f.f3).getD i [] = (fs.getD i z46).f3 := fun i hi => by
    rw [List.getD_eq_getElem?_getD, List.getElem?_map, List.getElem?_eq_getElem (by omega), getD46 _ _ (by omega)]
    rfl
   refine ⟨hn.symm, by rw [List.length_map, hn], fun i hi => ?_, fun i hi => ?_⟩
   ·obtain ⟨a, b, c, d⟩ := HI i hi
    rw [a, b, c, eg i hi]
   ·obtain ⟨a, b, c, d⟩ := HI i hi
    rw [d, eg i hi]
  have k3' : iter (hS bs) n 0 = (0, l) := by
   rw [← k3, ← hn]
   exact (iter_congr n fun q hq l => F.head q hq l).symm
  have S := small_of c4 (by omega) k3'
  have e1 : runE (headStep bs) 0 n = .ok l := (heads_iff c5).2 ⟨by omega, k3'⟩
  have e2 : runE (funcStep G (fsOf (hsOf bs n)) bs) (9 + 5 * n, l, []) n = .ok (bs.length, l', fs.map fun f => f.f3) := by
   refine (funcs_iff hb S (Nat.le_refl n)).2 ⟨F.clen, fun k hk => ?_, fun c hc x hx => ?_, ?_, ?_, ?_⟩
   ·have := F.sz k hk
    omega
   ·rw [List.mem_map] at hc
    obtain ⟨f, hf, rfl⟩ := hc
    exact h3 f hf x hx
   ·rw [← hn] at k4
    exact (iter_zero n l' fun q hq l l' => F.code G q hq l l').1 k4
   ·rw [← codes_eq F]
    rw [List.length_append, flat_heads, ← hn] at hc
    have hc : At bs (0 + (9 + 5 * n)) (fs.flatMap fun f => f.f3.flatMap instrB) := hc
    rw [Nat.zero_add] at hc
    exact hc
   ·rw [← codes_eq F, ← hlen, ← hn]
  have h9' : cntOf bs = (n : Int) := by rw [h9, hn]
  unfold decR
  rw [if_pos c1, if_pos (by omega), if_pos (by omega), h8, if_pos c4, if_pos c5, h9', if_pos (by rw [hn]; exact c6), Int.toNat_natCast, e1]
  simp only [e2, if_true]
  refine congrArg Except.ok (Prod.ext rfl ?_)
  have hsl : (hsOf bs n).length = (fs.map fun f => f.f3).length := by rw [hsOf_len, F.clen]
  refine ext46 (by rw [withCode_len hsl, F.clen, hn]) fun i hi => ?_
  rw [withCode_len hsl, F.clen] at hi
  have := withCode_get hsl i (by rw [F.clen]; exact hi)
  rw [(getD_hs bs n i hi).1] at this
  rw [this, F.get i hi]
theorem encB_bytes (G : Int) (fs : List S46) : Bytes (encB G fs) := by
 have b : ∀ v, 0 ≤ byteI v ∧ byteI v ≤ 255 := fun v => by unfold byteI; omega
 have num : ∀ x k, Bytes (numB x k) := fun x k y hy => by
  unfold numB at hy
  rw [List.mem_map] at hy
  obtain ⟨i, _, rfl⟩ := hy
  exact b _
 have lst : ∀ l : List Int, Bytes (byteI l.length :: l.map byteI) := fun l y hy => by
  rcases List.mem_cons.1 hy with rfl | hy
  ·exact b _
  ·rw [List.mem_map] at hy
   obtain ⟨i, _, rfl⟩ := hy
   exact b _
 have put : ∀ x pk, Bytes (putB x pk) := fun x pk => by
  have one : ∀ v, Bytes [byteI v] := fun v y hy => by rw [List.mem_singleton] at hy; rw [hy]; exact b _
  cases pk <;> first | exact one _ | exact lst _ | exact num _ _
 intro y hy
 unfold encB at hy
 rw [List.mem_append, List.mem_append] at hy
 rcases hy with (hy | hy) | hy
 ·unfold topL at hy
  rw [List.mem_append] at hy
  rcases hy with hy | hy
  ·simp only [List.mem_cons, List.not_mem_nil, or_false] at hy
   omega
  ·simp only [List.mem_cons, List.not_mem_nil, or_false] at hy
   rcases hy with rfl | rfl | rfl <;> exact b _
 ·rw [List.mem_flatMap] at hy
  obtain ⟨f, _, hy⟩ := hy
  unfold headL at hy
  simp only [List.mem_cons, List.not_mem_nil, or_false] at hy
  rcases hy with rfl | rfl | rfl | rfl | rfl <;> exact b _
 ·rw [List.mem_flatMap] at hy
  obtain ⟨f, _, hy⟩ := hy
  rw [List.mem_flatMap] at hy
  obtain ⟨x, _, hy⟩ := hy
  unfold instrB at hy
  rcases List.mem_cons.1 hy with rfl | hy
  ·exact b _
  ·rw [List.mem_flatMap] at hy
   obtain ⟨pk, _, hy⟩ := hy
   exact put x pk y hy
theorem wf_in64 {x : Int} (h : Wf x) : In64 x := by
 have h2 : (decide ((-9223372036854775808 : Int) ≤ x) && decide (x ≤ 9223372036854775807)) = true := h
 rw [Bool.and_eq_true, decide_eq_true_eq, decide_eq_true_eq] at h2
 exact h2
theorem in64_of {fs : List S46} (h : Ok22 fs) : ∀ f ∈ fs, ∀ x ∈ f.f3, In64 x.f4 := fun f hf x hx => by
 obtain ⟨_, _, _, h3⟩ := h.2 f hf
 obtain ⟨_, _, _, _, h4, _⟩ := h3.2 x hx
 exact wf_in64 h4
theorem enc_of {G : Int} {fs : List S46} (h : Ok22 fs) (h0 : firstE G fs = 0) : encOut G fs = encB G fs ∧ decOut (encB G fs) = (G, fs, 0, 0) ∧ 9 ≤ (encB G fs).length := by
 refine ⟨by unfold encOut; rw [if_pos h0], ?_, ?_⟩
 ·unfold decOut
  rw [(decR_iff (encB_bytes G fs)).2 ⟨h0, rfl, in64_of h⟩]
 ·unfold encB topL
  rw [List.length_append, List.length_append]
  show 9 ≤ 9 + _ + _
  omega
theorem ag_takes (m : Nat) (bs : List Int) (hm : m ≤ bs.length) : Ag (bs.take m).length bs (bs.take m) := by
 refine ⟨Nat.le_refl _, fun i hi => ?_⟩
 rw [List.length_take] at hi
 rw [List.getD_eq_getElem?_getD, List.getD_eq_getElem?_getD, List.getElem?_take, if_pos (by omega)]
theorem ag_app (bs ys : List Int) : Ag bs.length bs (bs ++ ys) := by
 refine ⟨by rw [List.length_append]; omega, fun i hi => ?_⟩
 rw [List.getD_eq_getElem?_getD, List.getD_eq_getElem?_getD, List.getElem?_append_left hi]
theorem instr_end {x : S50} {l : Int} (h : opE l x true = 0) : 2 ≤ (instrB x).length := by
 unfold opE at h
 split at h
 ·split at h
  ·split at h
   ·rename_i h1
    rcases h1 with h1 | h1 | h1
    ·cases h1
    ·unfold instrB
     rw [h1]
     show 2 ≤ (byteI 13 :: ([PK.jump].flatMap (putB x))).length
     rw [List.flatMap_cons, List.flatMap_nil, List.append_nil, numK_put .jump rfl, List.length_cons, numB_len, h1]
     decide
    ·unfold instrB
     rw [h1]
     show 2 ≤ (byteI 15 :: ((byteI x.f5.length :: x.f5.map byteI) ++ [])).length
     simp only [List.length_cons, List.length_append]
     omega
   ·omega
  ·omega
 ·omega
theorem enc_len {G : Int} {fs : List S46} (h : firstE G fs = 0) : 16 ≤ (encB G fs).length ∧ (encB G fs).length ≤ 1000000000000 := by
 obtain ⟨c4, c6, l, l', k3, k4⟩ := firstE_zero.1 h
 have c6b := funcsE_ok.1 c6
 have hn : 0 < fs.length := by omega
 have h0 : 0 < fs[0].f3.length := by
  obtain ⟨l1, g1⟩ := iter_all0 k3 0 hn
  have hs := headE_small (show headE l1 _ _ _ _ = 0 from g1)
  rw [getD46 _ _ hn] at hs
  omega
 obtain ⟨l2, e1, _⟩ := instr_ok h 0 hn (fs[0].f3.length - 1) (by omega)
 rw [show (fs[0].f3.length - 1 + 1 == fs[0].f3.length) = true by rw [beq_iff_eq]; omega] at e1
 have e2 := instr_end e1
 have e3 : 2 ≤ (fs[0].f3.flatMap instrB).length := by
  have hm : fs[0].f3[fs[0].f3.length - 1]'(by omega) ∈ fs[0].f3 := List.getElem_mem _
  obtain ⟨s, t, hst⟩ := List.append_of_mem hm
  rw [hst, List.flatMap_append, List.flatMap_cons, List.length_append, List.length_append]
  omega
 have e4 : 2 ≤ (fs.flatMap fun f => f.f3.flatMap instrB).length := by
  have hm : fs[0] ∈ fs := List.getElem_mem _
  obtain ⟨s, t, hst⟩ := List.append_of_mem hm
  generalize fs[0] = f at hst e3
  rw [hst, List.flatMap_append, List.flatMap_cons, List.length_append, List.length_append]
  omega
 have e5 := codes_len h fs.length
 rw [List.take_of_length_le (Nat.le_refl _)] at e5
 unfold encB topL
 rw [List.length_append, List.length_append, flat_heads]
 have e6 : ([102, 117, 103, 117, 101, 1] ++ [byteI G, byteI fs.length, byteI ((fs.length : Int) / 256)]).length = 9 := rfl
 rw [e6]
 omega
theorem cuts_l0 (b ys : List Int) (kk : Int) (G : Int) (fs : List S46) (hG : decR b = .ok (G, fs)) (hb : Bytes b) (hy : Bytes ys) (hc : b.length ≤ 1000000000000) (hl : ys.length ≤ 140737488351232) : ∀ (d i : Nat), ys.length - i = d → i ≤ ys.length → Ev (fun k => fuguelaw01_CodeCuts.l0 k ys true b kk 11 kk (b ++ ys.take i) (i : Int)) true := by
 intro d
 induction d with
 | zero =>
  intro i hd' hi
  have hby : Bytes (b ++ ys) := fun x hx => by
   rcases List.mem_append.1 hx with g | g
   ·exact hb x g
   ·exact hy x g
  cases ys with
  | nil =>
   have e : decOut b = (G, fs, 0, 0) := by unfold decOut; rw [hG]
   refine Ev.step (f := fun _ => some true) (fun k => by
    simp only [fuguelaw01_CodeCuts.l0]
    rw [if_neg (by show ¬ (i : Int) < ((([] : List Int).length : Nat) : Int); simp), List.take_nil, List.append_nil, dec_f hb, e]
    rfl) (Ev.now _)
  | cons y ys =>
   have e : decOut (b ++ y :: ys) = (0, [], 22, (b.length : Int)) := by
    unfold decOut
    rw [decR_trail hb hG (by rw [List.length_append, List.length_cons]; omega) (ag_app b (y :: ys))]
   refine Ev.step (f := fun _ => some true) (fun k => by
    simp only [fuguelaw01_CodeCuts.l0]
    rw [if_neg (by omega), List.take_of_length_le (by omega), dec_f hby, e]
    simp only [Option.bind_some, if_true]
    rw [if_neg (by rw [List.length_cons]; omega), beq_self_eq_true]) (Ev.now _)
 | succ d ih =>
  intro i hd' hi
  have hx : i < ys.length := by omega
  have e1 : rd ys (i : Int) = ys[i] := rd_get ys i hx
  refine Ev.step (fun k => by
   simp only [fuguelaw01_CodeCuts.l0]
   rw [if_pos (by omega), if_pos (by omega), if_pos (by rw [List.length_append, List.length_take]; omega), e1, wrap_in (by omega) (by omega), List.append_assoc, ← List.take_succ_eq_append_getElem hx]) ?_
  exact ih (i + 1) (by omega) (by omega)
theorem cuts_j1 (b ys : List Int) (kk : Nat) (G : Int) (fs : List S46) (hG : decR b = .ok (G, fs)) (hb : Bytes b) (hy : Bytes ys) (hc : b.length ≤ 1000000000000) (hl : ys.length ≤ 140737488351232) (hk : kk < b.length) : Ev (fun k => fuguelaw01_CodeCuts.j1 k ys true b (kk : Int)) true := by
 have hlen : (b.take kk).length = kk := by rw [List.length_take]; omega
 have e : decOut (b.take kk) = (0, [], 11, (kk : Int)) := by
  unfold decOut
  rw [decR_cut hb hG (by omega) (ag_takes kk b (by omega)), hlen]
 have hbt : Bytes (b.take kk) := fun x hx => hb x (List.mem_of_mem_take hx)
 refine Ev.step (fun k => by
  simp only [fuguelaw01_CodeCuts.j1]
  rw [if_pos (by omega), if_pos (by omega), Int.toNat_natCast, dec_f hbt, e]) ?_
 simp only [Option.bind_some]
 refine Ev.bind (copy_ev b (by omega)) ?_
 have h := cuts_l0 b ys kk G fs hG hb hy hc hl ys.length 0 (by omega) (by omega)
 simpa using h
theorem cuts_ev (G : Int) (fs : List S46) (cut : Int) (ys : List Int) (hp : Ok22 fs) (hc : In64 cut) (hy : Bytes ys) (hl : ys.length ≤ 140737488351232) : Ev (fun k => fuguelaw01_CodeCuts.f k G fs cut ys) true := by
 unfold fuguelaw01_CodeCuts.f
 refine Ev.bind works_ev ?_
 refine Ev.bind (copyprog_ev G fs hp) ?_
 simp only [show code_Encode.f G fs = some (encOut G fs, firstE G fs) from rfl, Option.bind_some, if_true]
 by_cases h0 : firstE G fs = 0
 ·obtain ⟨e1, e2, _⟩ := enc_of hp h0
  obtain ⟨e3, e4⟩ := enc_len h0
  have hd : decR (encB G fs) = .ok (G, fs) := (decR_iff (encB_bytes G fs)).2 ⟨h0, rfl, in64_of hp⟩
  simp only [if_pos h0, e1]
  obtain ⟨b, hb⟩ : ∃ b, b = encB G fs := ⟨_, rfl⟩
  have hby := encB_bytes G fs
  rw [← hb] at e3 e4 hd hby ⊢
  rw [decide_eq_false (show ¬ (b.length : Int) < 16 by omega)]
  have m0 : (0 : Int) < (b.length : Int) := by omega
  have t1 := Int.lt_tmod_of_pos cut m0
  have t2 := Int.tmod_lt_of_pos cut m0
  by_cases hneg : Int.tmod cut (b.length : Int) < 0
  ·obtain ⟨q, hq⟩ := Int.eq_ofNat_of_zero_le (show 0 ≤ Int.tmod cut (b.length : Int) + (b.length : Int) by omega)
   refine Ev.step (f := fun k => fuguelaw01_CodeCuts.j1 k ys true b (q : Int)) (fun k => by
    simp only [fuguelaw01_CodeCuts.j0]
    rw [if_neg (by decide), if_neg (by omega), if_pos hneg, wrap_in (by omega) (by omega), hq]) ?_
   exact cuts_j1 b ys q G fs hd hby hy e4 hl (by omega)
  ·obtain ⟨q, hq⟩ := Int.eq_ofNat_of_zero_le (show 0 ≤ Int.tmod cut (b.length : Int) by omega)
   refine Ev.step (f := fun k => fuguelaw01_CodeCuts.j1 k ys true b (q : Int)) (fun k => by
    simp only [fuguelaw01_CodeCuts.j0]
    rw [if_neg (by decide), if_neg (by omega), if_neg hneg, hq]) ?_
   exact cuts_j1 b ys q G fs hd hby hy e4 hl (by omega)
 ·have e1 : encOut G fs = [] := by unfold encOut; rw [if_neg h0]
  simp only [if_neg h0, e1]
  exact Ev.now _
theorem cuts_any {G cut : Int} {A0 A1 : Option Addr} {c0 c1 : Nat} {x0 : List S46} {x1 : List Int} (W : World) (l0 : x0.length ≤ c0) (g0 : Kd.C k46 W A0 x0.length x0) (h0 : Ok22 x0) (hc : In64 cut) (l1 : x1.length ≤ c1) (g1 : Kd.C (Kd.int .u8) W A1 x1.length x1) (h1 : Ok33 x1) (hT : Tab W) :
  Calls Tryd.prog 8 #[.agg #[.int .i64 G, .slice A0 x0.length c0], .int .i64 cut, .slice A1 x1.length c1] W fun e w' => e = .returned (.bool true) ∧ Below W.heap.size W w' := by
 obtain ⟨k, hk⟩ := (cuts_ev G x0 cut x1 h0 hc (ok33 h1).2 (ok33 h1).1).rounds
 exact fuguelaw01_CodeCuts.calls k G A0 c0 x0 cut A1 c1 x1 true rfl W g0 l0 g1 l1 hk hT
end Go.Proofs.YteonppgdmhakoaaDoor.PC
namespace Go.Proofs.YteonppgdmhakoaaDoor.codeCuts
open Go.Proofs.YteonppgdmhakoaaDoor.PC Go.ChangeShapes Go.WideShapes Go.ChangeAt Go.RowKit Go.Proofs.YteonppgdmhakoaaDoor.Open
set_option linter.unusedVariables false
theorem own : ownKnob Tryd.prog.godebug = none := by kernel_rfl
theorem laidOut : laidOutB Tryd.prog = true := by kernel_rfl
set_option maxRecDepth 100000 in
theorem contract (H : Type) (enc : TypeId × Value → H) (W : World) (base : Nat) (args : Array Value) (ds gs : List (DataW H)) (before : List MemPlace)
  (hval0 : ∀ (j : Nat) t v, Tryd.f8.params[j]? = some t → args[j]? = some v → Value.okWide Tryd.prog W .any base t v)
  (hW : DataW.Whole enc Tryd.prog Tryd.f8.params.toList Rows.codeCutsSpec.vars false W args.toList ds gs before)
  (hsz0 : (DataW.weightsEach Tryd.prog (Tryd.f8.params.toList ++ Rows.codeCutsSpec.plain.varTypes Tryd.prog) (ds ++ gs)).all (· ≤ reachBytes) = true)
  (hL : laidMetH Tryd.prog Rows.codeCutsRow.laid W) :
  Calls Tryd.prog 8 args W fun e W' => ∃ v, e = .returned v ∧ Rows.codeCutsSpec.post enc Tryd.prog Tryd.f8 false true false false W args v W' := by
 have hT : Tab W := tab_laid hL
 have hval := hval0
 have hsz := hsz0
 have hW' := hW
 obtain ⟨p, q, hA0, hV, rfl, hfz, hnd⟩ := hW
 have hA : DataW.TrodAll enc Tryd.prog W 0 (fun _ => true) true Tryd.f8.params.toList args.toList ds p := hA0
 rw [Tryd.params8] at hA hval hsz
 obtain ⟨v0, vs0, d0, ds0, p0, q0, hargs, rfl, rfl, h0, r0⟩ := trodAll_cons hA
 obtain ⟨v1, vs1, d1, ds1, p1, q1, rfl, rfl, rfl, h1, r1⟩ := trodAll_cons r0
 obtain ⟨v2, vs2, d2, ds2, p2, q2, rfl, rfl, rfl, h2, r2⟩ := trodAll_cons r1
 obtain ⟨rfl, rfl, rfl⟩ := trodAll_nil r2
 obtain rfl : args = #[v0, v1, v2] := by cases args; simp_all
 obtain ⟨rfl, rfl⟩ := trodVars_none hV
 have k0 := h0
 have lt0 : ∀ x ∈ p0, x.block < W.heap.size := by obtain ⟨m, hm⟩ := k0; exact DataW.trod_lt m _ _ _ hm
 have ov0 := (hval 0 24 v0 rfl rfl)
 obtain ⟨fu0, hf0⟩ := h0
 obtain ⟨x0, hK0, hok0⟩ := Rd.read (rd24) hf0 (weights_at hsz (j := 0) (t := 24) rfl rfl)
 obtain ⟨A0, c0, rfl, l0, g0⟩ := open24 ov0 hK0
 obtain ⟨a1, rfl, rfl, rfl, w1⟩ := open_int Tryd.underlying3 (hval 1 3 v1 rfl rfl) h1
 have k2 := h2
 have lt2 : ∀ x ∈ p2, x.block < W.heap.size := by obtain ⟨m, hm⟩ := k2; exact DataW.trod_lt m _ _ _ hm
 have ov2 := (hval 2 33 v2 rfl rfl)
 obtain ⟨fu2, hf2⟩ := h2
 obtain ⟨x2, hK2, hok2⟩ := Rd.read (rd33) hf2 (weights_at hsz (j := 2) (t := 33) rfl rfl)
 obtain ⟨A2, c2, rfl, l2, g2⟩ := open33 ov2 hK2
 clear hA0 hval0 hsz0 hsz
 refine (cuts_any W l0 g0 hok0.2 (wf_in64 w1) l2 g2 hok2 hT).mono fun e W' ⟨he, bel⟩ => ?_
 subst he
 exact ⟨_, rfl, _, _, _, [], _, [], hW', trodAll_mk1 (shut_bool Tryd.underlying4 _), (trodAll_cons_mk (Below.trod laidOut (by kernel_rfl) (of_decide_eq_true (by kernel_rfl)) k0 bel lt0) (trodAll_cons_mk (shut_int Tryd.underlying3 w1) (trodAll_cons_mk (Below.trod laidOut (by kernel_rfl) (of_decide_eq_true (by kernel_rfl)) k2 bel lt2) trodAll_mk0))), rfl, bel.frame _, fun h => by cases h⟩
theorem laid_met (os : Os) : laidMet Tryd.prog Rows.codeCutsRow.laid ((laidWorld os).forCall (fun _ _ => 0) ⟨#[], #[.agg #[.int .i64 0, .slice none 0 0], .int .i64 0, .slice none 0 0], []⟩).memory :=
 laidMet_of_run' 8 (by kernel_rfl) (by kernel_rfl)
theorem reads (os : Os) {H : Type} (enc : TypeId × Value → H) : ∃ places, DataW.whole enc Tryd.prog ((laidWorld os).forCall (fun _ _ => 0) ⟨#[], #[.agg #[.int .i64 0, .slice none 0 0], .int .i64 0, .slice none 0 0], []⟩).memory Tryd.f8.params.toList Rows.codeCutsSpec.vars false (#[.agg #[.int .i64 0, .slice none 0 0], .int .i64 0, .slice none 0 0] : Array Value).toList 8 = some ([.agg [.lit (.int .i64 0), .nil], .lit (.int .i64 0), .nil], [], places) :=
 ⟨[], by kernel_rfl⟩
set_option maxRecDepth 100000 in
theorem lifted (os : Os) (started : os.Started) (H : Type) (enc : TypeId × Value → H) (F : Stop.Interp) :
  ReturnsInHanded {} Tryd.checked os 8 .any ((OpenSpec.ofChange Rows.codeCutsSpec).preRow enc Tryd.prog Tryd.f8 Rows.codeCutsRow.domain false Rows.codeCutsRow.laid) (((OpenSpec.ofChange Rows.codeCutsSpec).at F).post enc Tryd.prog Tryd.f8 false true false false) := by
 obtain ⟨places, hx⟩ := reads os enc
 refine returnsInHanded_of_row (C := Tryd.checked) (s := (OpenSpec.ofChange Rows.codeCutsSpec)) own started (by kernel_rfl) Tryd.func8
  (witness_row_at (enc := enc) (C := Tryd.checked) false (laidWorld os) #[.agg #[.int .i64 0, .slice none 0 0], .int .i64 0, .slice none 0 0] rfl (by kernel_rfl) (by kernel_rfl) (by kernel_rfl)
   (OpenSpec.preRow_of_cond 8 hx (by kernel_rfl) (fun k hk => by cases hk) (by kernel_rfl) (laid_met os))) ?_
 intro W base args ds gs before hval hW _ _ hsz hL _ _
 exact contract H enc W base args ds gs before hval hW hsz hL
theorem said : Rows.CodeCutsSaid :=
 OpenClaim.holds_of_cond 8 Tryd.f8 rfl rfl rfl rfl rfl rfl rfl ⟨rfl, rfl, rfl, rfl, rfl⟩ rfl rfl rfl rfl rfl (by kernel_rfl) Tryd.func8 (by kernel_rfl)
  (of_decide_eq_true (by kernel_rfl)) (by unfold Func.isWrapper; first | (rw [if_pos (by decide +kernel)]; kernel_rfl) | (rw [if_neg (by decide +kernel)]; exact ⟨rfl, rfl⟩))
  (fun os started H enc _ F => by rw [OpenClaim.pre_eq_preRow]; exact lifted os started H enc F)
theorem plain (f : FuncId) (fn : Func) (hf : Tryd.pinned.checked.prog.funcNamed "fugue/fuguelaw01.CodeCuts" = some f) (hfn : Tryd.pinned.checked.prog.funcs[f]? = some fn) :
  true = Tryd.pinned.checked.prog.looks [] ∧ ∀ (j : Nat) t, fn.params[j]? = some t → Tryd.pinned.checked.prog.wantsStandIn t = false := by
 obtain rfl : f = 8 := Option.some.inj ((show Tryd.prog.funcNamed "fugue/fuguelaw01.CodeCuts" = some 8 by kernel_rfl).symm.trans hf) |>.symm
 obtain rfl : fn = Tryd.f8 := (Option.some.inj (Tryd.func8.symm.trans hfn)).symm
 refine ⟨by kernel_rfl, fun j t ht => ?_⟩
 rw [Tryd.params8] at ht
 have hm := Array.mem_of_getElem? ht
 simp only [List.mem_toArray, List.mem_cons, List.not_mem_nil, or_false] at hm
 rcases hm with rfl | rfl | rfl
 ·exact (show Tryd.prog.wantsStandIn 24 = false by kernel_rfl)
 ·exact (show Tryd.prog.wantsStandIn 3 = false by kernel_rfl)
 ·exact (show Tryd.prog.wantsStandIn 33 = false by kernel_rfl)
theorem card : Rows.CodeCutsCardSaid :=
 Claim7.holds_tied_plain_at .later [] _ _ _ _ said (fun _ h => by cases h) (by kernel_rfl) (fun _ h => by cases h) codeCuts_row_tie rfl ⟨rfl, rfl⟩ (by kernel_rfl) rfl plain (by kernel_rfl)
#print axioms card
end Go.Proofs.YteonppgdmhakoaaDoor.codeCuts
namespace Go.Proofs.YteonppgdmhakoaaDoor
theorem codeCuts_holds : Rows.CodeCutsCardSaid := codeCuts.card
end Go.Proofs.YteonppgdmhakoaaDoor
