-- printed by a program of the session's (wip/tools/hook.py over the kit's printer), with functions proved by hand
import Derived.Test.YtgemcomcjojjbaaHRoundF
namespace Go.Proofs.Ytgemcomcjojjbaa.PS
open Go.RowKit Go.Proofs.YtgemcomcjojjbaaW.PrintWords Go.Proofs.YtgemcomcjojjbaaW.PrintLast Go.Proofs.YtgemcomcjojjbaaW.PrintMore
attribute [local go_sem] max2_int min2_int max_two min_two max_three min_three max_four min_four   -- for this text's walks alone
set_option linter.unusedVariables false
set_option linter.unusedSimpArgs false
open Go.Proofs.YtgemcomcjojjbaaW.PrintWords.Kd
/-- A fact, aside. -/
theorem Am {p : Prop} (h : p) : Aside0 p := ⟨h⟩
/-- A cell that was there lies in no new block. -/
theorem nb {W : World} {a : Addr} {v : Value} {g b : Nat} (h : W.cell? a = some v) (hg : W.heap.size ≤ g) (e : b = a.block) : b ≠ g := by
  subst e
  exact Nat.ne_of_lt (Nat.lt_of_lt_of_le (World.block_lt_of_cell? W a h) hg)

def fuguelaw09_SumsRounds.T7 : Bool × List (List Nat × List Nat) := (true, [([], []), ([], []), ([0, 1], [0, 1]), ([2], [2]), ([3], [3]), ([], []), ([], []), ([5, 6], [5, 6]), ([7], [7]), ([8], [8]), ([], []), ([], []), ([10, 11], [10, 11]), ([12], [12]), ([13], [13]), ([4, 9, 14], [4, 9, 14]), ([15], [15]), ([16], [16]), ([16], [16]), ([], []), ([], []), ([19, 17, 15, 0, 1, 2, 3, 4, 5, 6, 7, 8, 9, 10, 11, 12, 13, 14, 15, 16, 17, 19, 20], [17, 19]), ([20, 18, 21, 0, 1, 2, 3, 4, 5, 6, 7, 8, 9, 10, 11, 12, 13, 14, 15, 16, 17, 18, 19, 20, 21], [18, 20])])
def fuguelaw09_SumsRounds.B7 : List Nat := [0, 0, 3, 7, 15, 0, 0, 96, 224, 480, 0, 0, 3072, 7168, 15360, 32767, 65535, 131071, 131071, 0, 0, 1835007, 4194303]
theorem fuguelaw09_SumsRounds.tab7 : rtab .any (opsOf Try.f6 7) = fuguelaw09_SumsRounds.T7 := by kernel_rfl
theorem fuguelaw09_SumsRounds.bits7 : waitsOk fuguelaw09_SumsRounds.T7.2 fuguelaw09_SumsRounds.B7 = true := by kernel_rfl
set_option maxHeartbeats 8000000 in
set_option maxRecDepth 100000 in
theorem fuguelaw09_SumsRounds.calls (k : Nat) (A0 : Option Addr) (c0 : Nat) (l0 : List (S24)) (a1 : Int) (a2 : Int) (r : Bool) (w : World) (hr0 : Kd.C k24 w A0 l0.length l0) (hc0 : l0.length ≤ c0) (h : fuguelaw09_SumsRounds.f k l0 a1 a2 = some r) :
  Calls Try.prog 6 #[.slice A0 l0.length c0, .int .i64 a1, .int .u8 a2] w fun e w' => e = .returned (.bool r) ∧ Below w.heap.size w w' := by
 have hu28 := Try.underlying28
 have hu31 := Try.underlying31
 have HR0 := Am hr0
 have HC0 := Am hc0
 clear hr0 hc0
 have HB := Am (Below.refl w.heap.size w)
 have H : ((fuguelaw09_fixed.f).bind fun t178 => (fuguelaw09_SumsRounds.l0 k l0 a1 a2 t178 ([] : List (S28)) ([] : List (S31)) 0)) = some r := h
 clear h
 replace H := Option.bind_eq_some_iff.mp H
 obtain ⟨t178, A40, H⟩ := H
 replace H : (fuguelaw09_SumsRounds.l0 k l0 a1 a2 t178 ([] : List (S28)) ([] : List (S31)) 0) = some r := H
 have A4 := Am A40
 clear A40
 have H' := Am H
 clear H
 go_enter Try.func6, Try.ntmps6
 go_wp2_with (first | ((with_reducible refine gate_callee (f := 8) rfl ?_); refine goesL_ (some 31) rfl rfl Try.func8 (by kernel_rfl) rfl #[] rfl (by (try simp only [List.map_toArray, List.map_cons, List.map_nil]); first | done | rfl | (simp only [List.length_drop, List.length_take]; rfl)) ?_; (with_reducible refine (fuguelaw09_fixed.calls  t178 _ A4.out).mono ?_); rintro e w5 ⟨rfl, hb⟩; refine ⟨_, rfl, ?_⟩; have n0_ := Am (below_step (by repeat (first | (with_reducible first | exact HB.out | apply below_alloc | apply pw_below_drewN | apply below_drew1) | exact HB.out)) hb); clear HB; have HB := n0_; clear n0_; (try clear hb); (try clear hb2); (try clear hk); (try clear hi)))
 go_loopg [8, 9, 10] k (fun kq v8 v9 v10 w' => ∃ (x8_1 : List (S28)) (x9_1 : List (S31)) (x10_1 : Int), v10 = .int .i64 x10_1 ∧ Aside0 (fuguelaw09_SumsRounds.l0 kq l0 a1 a2 t178 x8_1 x9_1 x10_1 = some r) ∧ Aside0 (kq ≤ k) ∧ Aside0 (Kd.N k28 28 w' w.heap.size (fun k_ => some k_ ≠ (v9 : Value).ownBlock) v8 x8_1) ∧ Aside0 (Kd.N k31 31 w' w.heap.size (fun k_ => some k_ ≠ (v8 : Value).ownBlock) v9 x9_1) ∧ Aside0 (Below w.heap.size w w'))
 case atStart => exact ⟨(([] : List (S28))), (([] : List (S31))), (0), (by first | rfl | (simp; done) | (simp [*]; done)), H', ⟨Nat.le_refl _⟩, ⟨by first | exact R_nil _ _ _ _ _ | exact N_nil _ _ _ _ _ | exact V_nil _ _ _ _ _ | exact Q_nil _ _ _ _ _ | exact S_nil _ _ _ _ _⟩, ⟨by first | exact R_nil _ _ _ _ _ | exact N_nil _ _ _ _ _ | exact V_nil _ _ _ _ _ | exact Q_nil _ _ _ _ _ | exact S_nil _ _ _ _ _⟩, ⟨by repeat (first | (with_reducible first | exact HB.out | apply below_alloc | apply pw_below_drewN | apply below_drew1) | exact HB.out)⟩⟩
 case round =>
  clear H'
  try clear p2
  obtain ⟨x8_1, x9_1, x10_1, rfl, HA, HK1, HO_8, HO_9, HB⟩ := hrel
  cases gk with
  | zero => exact absurd HA.out (by simp [fuguelaw09_SumsRounds.l0])
  | succ k1 =>
   have H := HA.out
   clear HA
   simp only [fuguelaw09_SumsRounds.l0] at H
   by_cases c6 : x10_1 < (l0.length : Int)
   ·
    rw [if_pos c6] at H
    have c6b0 : decide (x10_1 < (l0.length : Int)) = true := decide_eq_true c6
    clear c6
    by_cases c7 : 0 ≤ x10_1
    ·
     rw [if_pos c7] at H
     have c7b0 : decide (0 ≤ x10_1) = true := decide_eq_true c7
     clear c7
     replace H := Option.bind_eq_some_iff.mp H
     obtain ⟨⟨t182, t183, t184, t185, t188, t191⟩, A80, H⟩ := H
     replace H : (if x8_1.length < 2932031007402 then (if x9_1.length < 2932031007402 then (fuguelaw09_SumsRounds.l0 k1 l0 a1 a2 t178 (x8_1 ++ [(⟨t182, t183, t184, t185⟩ : S28)]) (x9_1 ++ [(⟨t188, t191⟩ : S31)]) (wrap64 (x10_1 + 1))) else (none)) else (none)) = some r := H
     have A8 := Am A80
     clear A80
     by_cases c9 : x8_1.length < 2932031007402
     ·
      rw [if_pos c9] at H
      have LMc9 := Am c9
      clear c9
      obtain ⟨y196, hy196⟩ : ∃ y_ : List (S28), y_ = (x8_1 ++ [(⟨t182, t183, t184, t185⟩ : S28)]) := ⟨_, rfl⟩
      replace H : (if x9_1.length < 2932031007402 then (fuguelaw09_SumsRounds.l0 k1 l0 a1 a2 t178 y196 (x9_1 ++ [(⟨t188, t191⟩ : S31)]) (wrap64 (x10_1 + 1))) else (none)) = some r := by first | (rw [hy196]; with_reducible exact H) | (have H2_ := (Option.bind_some _ _).symm.trans H; rw [hy196]; with_reducible exact H2_) | (have H2_ := (Option.bind_some _ _).symm.trans H; with_reducible exact H2_) | with_reducible exact H | (rw [hy196]; exact H) | exact H
      have Ny196 := Am hy196
      clear hy196
      by_cases c10 : x9_1.length < 2932031007402
      ·
       rw [if_pos c10] at H
       have LMc10 := Am c10
       clear c10
       obtain ⟨y199, hy199⟩ : ∃ y_ : List (S31), y_ = (x9_1 ++ [(⟨t188, t191⟩ : S31)]) := ⟨_, rfl⟩
       replace H : (fuguelaw09_SumsRounds.l0 k1 l0 a1 a2 t178 y196 y199 (wrap64 (x10_1 + 1))) = some r := by first | (rw [hy199]; with_reducible exact H) | (have H2_ := (Option.bind_some _ _).symm.trans H; rw [hy199]; with_reducible exact H2_) | (have H2_ := (Option.bind_some _ _).symm.trans H; with_reducible exact H2_) | with_reducible exact H | (rw [hy199]; exact H) | exact H
       have Ny199 := Am hy199
       clear hy199
       have H' := Am H
       clear H
       try go_wp2
       have n0_ := Am (N_drew HO_8.out)
       have n1_ := Am (N_drew HO_9.out)
       have n2_ := Am (below_drew1 HB.out)
       clear HO_8
       clear HO_9
       clear HB
       have HO_8 := n0_
       have HO_9 := n1_
       have HB := n2_
       clear n0_ n1_ n2_
       have p179 : 0 ≤ (x10_1 : Int) := of_decide_eq_true (by first | (with_reducible assumption) | assumption)
       have q179 : x10_1 < (l0.length : Int) := of_decide_eq_true (by first | (with_reducible assumption) | assumption)
       obtain ⟨ad179, A179_2, c179_2, A179_3, c179_3, A179_4, c179_4, e179, hx179_0, hx179_1, hx179_2, hx179_3, hx179_4, hl179_2, hi179_2, hl179_3, hi179_3, hl179_4, hi179_4⟩ := at_T24 HR0.out x10_1 p179 q179
       have hw179_4 := hx179_4
       have hw179_3 := hx179_3
       have hw179_2 := hx179_2
       have hw179_1 := hx179_1
       have hw179_0 := hx179_0
       cases e179
       replace hx179_0 := (HB.out.cell (World.block_lt_of_cell? w _ hx179_0)).trans hx179_0
       replace hx179_1 := (HB.out.cell (World.block_lt_of_cell? w _ hx179_1)).trans hx179_1
       replace hx179_2 := (HB.out.cell (World.block_lt_of_cell? w _ hx179_2)).trans hx179_2
       replace hx179_3 := (HB.out.cell (World.block_lt_of_cell? w _ hx179_3)).trans hx179_3
       replace hx179_4 := (HB.out.cell (World.block_lt_of_cell? w _ hx179_4)).trans hx179_4
       have HR179_2 := Am hi179_2
       have HC179_2 := Am hl179_2
       clear hi179_2 hl179_2
       have HR179_3 := Am hi179_3
       have HC179_3 := Am hl179_3
       clear hi179_3 hl179_3
       have HR179_4 := Am hi179_4
       have HC179_4 := Am hl179_4
       clear hi179_4 hl179_4
       replace p179 := eq_true p179
       replace q179 := eq_true q179
       have p180 : 0 ≤ (x10_1 : Int) := of_decide_eq_true (by first | (with_reducible assumption) | assumption)
       have q180 : x10_1 < (l0.length : Int) := of_decide_eq_true (by first | (with_reducible assumption) | assumption)
       obtain ⟨ad180, A180_2, c180_2, A180_3, c180_3, A180_4, c180_4, e180, hx180_0, hx180_1, hx180_2, hx180_3, hx180_4, hl180_2, hi180_2, hl180_3, hi180_3, hl180_4, hi180_4⟩ := at_T24 HR0.out x10_1 p180 q180
       have hw180_4 := hx180_4
       have hw180_3 := hx180_3
       have hw180_2 := hx180_2
       have hw180_1 := hx180_1
       have hw180_0 := hx180_0
       obtain rfl : ad179 = ad180 := (by injection e180)
       replace hx180_0 := (HB.out.cell (World.block_lt_of_cell? w _ hx180_0)).trans hx180_0
       replace hx180_1 := (HB.out.cell (World.block_lt_of_cell? w _ hx180_1)).trans hx180_1
       replace hx180_2 := (HB.out.cell (World.block_lt_of_cell? w _ hx180_2)).trans hx180_2
       replace hx180_3 := (HB.out.cell (World.block_lt_of_cell? w _ hx180_3)).trans hx180_3
       replace hx180_4 := (HB.out.cell (World.block_lt_of_cell? w _ hx180_4)).trans hx180_4
       have HR180_2 := Am hi180_2
       have HC180_2 := Am hl180_2
       clear hi180_2 hl180_2
       have HR180_3 := Am hi180_3
       have HC180_3 := Am hl180_3
       clear hi180_3 hl180_3
       have HR180_4 := Am hi180_4
       have HC180_4 := Am hl180_4
       clear hi180_4 hl180_4
       replace p180 := eq_true p180
       replace q180 := eq_true q180
       have ea_ := Option.some.inj (hx179_2.symm.trans hx180_2)
       injection ea_ with ea_ en_ ec_
       subst ea_
       subst ec_
       clear en_
       have ea_ := Option.some.inj (hx179_3.symm.trans hx180_3)
       injection ea_ with ea_ en_ ec_
       subst ea_
       subst ec_
       clear en_
       have ea_ := Option.some.inj (hx179_4.symm.trans hx180_4)
       injection ea_ with ea_ en_ ec_
       subst ea_
       subst ec_
       clear en_
       have p181 : 0 ≤ (x10_1 : Int) := of_decide_eq_true (by first | (with_reducible assumption) | assumption)
       have q181 : x10_1 < (l0.length : Int) := of_decide_eq_true (by first | (with_reducible assumption) | assumption)
       obtain ⟨ad181, A181_2, c181_2, A181_3, c181_3, A181_4, c181_4, e181, hx181_0, hx181_1, hx181_2, hx181_3, hx181_4, hl181_2, hi181_2, hl181_3, hi181_3, hl181_4, hi181_4⟩ := at_T24 HR0.out x10_1 p181 q181
       have hw181_4 := hx181_4
       have hw181_3 := hx181_3
       have hw181_2 := hx181_2
       have hw181_1 := hx181_1
       have hw181_0 := hx181_0
       obtain rfl : ad179 = ad181 := (by injection e181)
       replace hx181_0 := (HB.out.cell (World.block_lt_of_cell? w _ hx181_0)).trans hx181_0
       replace hx181_1 := (HB.out.cell (World.block_lt_of_cell? w _ hx181_1)).trans hx181_1
       replace hx181_2 := (HB.out.cell (World.block_lt_of_cell? w _ hx181_2)).trans hx181_2
       replace hx181_3 := (HB.out.cell (World.block_lt_of_cell? w _ hx181_3)).trans hx181_3
       replace hx181_4 := (HB.out.cell (World.block_lt_of_cell? w _ hx181_4)).trans hx181_4
       have HR181_2 := Am hi181_2
       have HC181_2 := Am hl181_2
       clear hi181_2 hl181_2
       have HR181_3 := Am hi181_3
       have HC181_3 := Am hl181_3
       clear hi181_3 hl181_3
       have HR181_4 := Am hi181_4
       have HC181_4 := Am hl181_4
       clear hi181_4 hl181_4
       replace p181 := eq_true p181
       replace q181 := eq_true q181
       have ea_ := Option.some.inj (hx179_2.symm.trans hx181_2)
       injection ea_ with ea_ en_ ec_
       subst ea_
       subst ec_
       clear en_
       have ea_ := Option.some.inj (hx179_3.symm.trans hx181_3)
       injection ea_ with ea_ en_ ec_
       subst ea_
       subst ec_
       clear en_
       have ea_ := Option.some.inj (hx179_4.symm.trans hx181_4)
       injection ea_ with ea_ en_ ec_
       subst ea_
       subst ec_
       clear en_
       refine start_ (n := 23) (S := fun w' => w'.cell? (ad179.add ((x10_1).toNat * 5)) = some (.int .i64 ((rd_T24 l0 x10_1).f0)) ∧ w'.cell? ⟨(ad179.add ((x10_1).toNat * 5)).block, (ad179.add ((x10_1).toNat * 5)).off + 1, none⟩ = some (.int .i64 ((rd_T24 l0 x10_1).f1)) ∧ w'.cell? ⟨(ad179.add ((x10_1).toNat * 5)).block, (ad179.add ((x10_1).toNat * 5)).off + 2, none⟩ = some (.slice A179_2 ((rd_T24 l0 x10_1).f2).length c179_2) ∧ w'.cell? ⟨(ad179.add ((x10_1).toNat * 5)).block, (ad179.add ((x10_1).toNat * 5)).off + 3, none⟩ = some (.slice A179_3 ((rd_T24 l0 x10_1).f3).length c179_3) ∧ w'.cell? ⟨(ad179.add ((x10_1).toNat * 5)).block, (ad179.add ((x10_1).toNat * 5)).off + 4, none⟩ = some (.slice A179_4 ((rd_T24 l0 x10_1).f4).length c179_4) ∧ w'.cell? (ad179.add ((x10_1).toNat * 5)) = some (.int .i64 ((rd_T24 l0 x10_1).f0)) ∧ w'.cell? ⟨(ad179.add ((x10_1).toNat * 5)).block, (ad179.add ((x10_1).toNat * 5)).off + 1, none⟩ = some (.int .i64 ((rd_T24 l0 x10_1).f1)) ∧ w'.cell? ⟨(ad179.add ((x10_1).toNat * 5)).block, (ad179.add ((x10_1).toNat * 5)).off + 2, none⟩ = some (.slice A179_2 ((rd_T24 l0 x10_1).f2).length c179_2) ∧ w'.cell? ⟨(ad179.add ((x10_1).toNat * 5)).block, (ad179.add ((x10_1).toNat * 5)).off + 3, none⟩ = some (.slice A179_3 ((rd_T24 l0 x10_1).f3).length c179_3) ∧ w'.cell? ⟨(ad179.add ((x10_1).toNat * 5)).block, (ad179.add ((x10_1).toNat * 5)).off + 4, none⟩ = some (.slice A179_4 ((rd_T24 l0 x10_1).f4).length c179_4) ∧ w'.cell? (ad179.add ((x10_1).toNat * 5)) = some (.int .i64 ((rd_T24 l0 x10_1).f0)) ∧ w'.cell? ⟨(ad179.add ((x10_1).toNat * 5)).block, (ad179.add ((x10_1).toNat * 5)).off + 1, none⟩ = some (.int .i64 ((rd_T24 l0 x10_1).f1)) ∧ w'.cell? ⟨(ad179.add ((x10_1).toNat * 5)).block, (ad179.add ((x10_1).toNat * 5)).off + 2, none⟩ = some (.slice A179_2 ((rd_T24 l0 x10_1).f2).length c179_2) ∧ w'.cell? ⟨(ad179.add ((x10_1).toNat * 5)).block, (ad179.add ((x10_1).toNat * 5)).off + 3, none⟩ = some (.slice A179_3 ((rd_T24 l0 x10_1).f3).length c179_3) ∧ w'.cell? ⟨(ad179.add ((x10_1).toNat * 5)).block, (ad179.add ((x10_1).toNat * 5)).off + 4, none⟩ = some (.slice A179_4 ((rd_T24 l0 x10_1).f4).length c179_4)) (ds := []) #[false, false, false, false, false, false, false, false, false, false, false, false, false, false, false, false, false, false, false, false, false, false, false] (by kernel_rfl) rfl rfl ⟨((HB.out.cell (World.block_lt_of_cell? w _ hw179_0)).trans hw179_0), ((HB.out.cell (World.block_lt_of_cell? w _ hw179_1)).trans hw179_1), ((HB.out.cell (World.block_lt_of_cell? w _ hw179_2)).trans hw179_2), ((HB.out.cell (World.block_lt_of_cell? w _ hw179_3)).trans hw179_3), ((HB.out.cell (World.block_lt_of_cell? w _ hw179_4)).trans hw179_4), ((HB.out.cell (World.block_lt_of_cell? w _ hw180_0)).trans hw180_0), ((HB.out.cell (World.block_lt_of_cell? w _ hw180_1)).trans hw180_1), ((HB.out.cell (World.block_lt_of_cell? w _ hw180_2)).trans hw180_2), ((HB.out.cell (World.block_lt_of_cell? w _ hw180_3)).trans hw180_3), ((HB.out.cell (World.block_lt_of_cell? w _ hw180_4)).trans hw180_4), ((HB.out.cell (World.block_lt_of_cell? w _ hw181_0)).trans hw181_0), ((HB.out.cell (World.block_lt_of_cell? w _ hw181_1)).trans hw181_1), ((HB.out.cell (World.block_lt_of_cell? w _ hw181_2)).trans hw181_2), ((HB.out.cell (World.block_lt_of_cell? w _ hw181_3)).trans hw181_3), ((HB.out.cell (World.block_lt_of_cell? w _ hw181_4)).trans hw181_4)⟩ (fun hHeld => ?_); refine with_tabW fuguelaw09_SumsRounds.tab7 fuguelaw09_SumsRounds.bits7 (fun HT_ HW_ => ?_)
       generalize wr.drew = w11 at HO_8 HO_9 HB HR179_2 HR179_3 HR179_4 HR180_2 HR180_3 HR180_4 HR181_2 HR181_3 HR181_4 hx179_0 hx179_1 hx179_2 hx179_3 hx179_4 hx180_0 hx180_1 hx180_2 hx180_3 hx180_4 hx181_0 hx181_1 hx181_2 hx181_3 hx181_4 hHeld ⊢
       refine pure_ (i := 0) (N := some 39) (v := ?_) (a' := ?_) #[true, false, false, false, false, false, false, false, false, false, false, false, false, false, false, false, false, false, false, false, false, false, false] rfl rfl (any_of HT_.out (by kernel_rfl)) (fun _ _ _ h => h) (Or.inl ⟨by rfl, ?_⟩) ?_ ?_
       rotate_left
       ·
        intro w'
        go_simp
        with_reducible rfl
       rotate_left
       ·
        simp only [Act.put, List.setIfInBounds_toArray, List.set_cons_zero, List.set_cons_succ, i64_w, i32_w]
        rfl
       refine pure_ (i := 1) (N := some 40) (v := ?_) (a' := ?_) #[true, true, false, false, false, false, false, false, false, false, false, false, false, false, false, false, false, false, false, false, false, false, false] rfl rfl (any_of HT_.out (by kernel_rfl)) (fun _ _ _ h => h) (Or.inl ⟨by rfl, ?_⟩) ?_ ?_
       rotate_left
       ·
        intro w'
        go_simp
        with_reducible rfl
       rotate_left
       ·
        simp only [Act.put, List.setIfInBounds_toArray, List.set_cons_zero, List.set_cons_succ, i64_w, i32_w]
        rfl
       refine pure_ (i := 2) (N := some 41) (v := ?_) (a' := ?_) #[true, true, true, false, false, false, false, false, false, false, false, false, false, false, false, false, false, false, false, false, false, false, false] rfl rfl (any_of HT_.out (by kernel_rfl)) (fun _ _ _ h => h) (Or.inl ⟨by rfl, ?_⟩) ?_ ?_
       rotate_left
       ·
        intro w'
        go_simp
        with_reducible rfl
       rotate_left
       ·
        simp only [Act.put, List.setIfInBounds_toArray, List.set_cons_zero, List.set_cons_succ, i64_w, i32_w]
        rfl
       refine pure_ (i := 3) (N := some 42) (v := ?_) (a' := ?_) #[true, true, true, true, false, false, false, false, false, false, false, false, false, false, false, false, false, false, false, false, false, false, false] rfl rfl (any_of HT_.out (by kernel_rfl)) (fun _ _ _ h => h) (Or.inl ⟨by rfl, ?_⟩) ?_ ?_
       rotate_left
       ·
        intro w'
        go_simp
        with_reducible rfl
       rotate_left
       ·
        simp only [Act.put, List.setIfInBounds_toArray, List.set_cons_zero, List.set_cons_succ, i64_w, i32_w]
        rfl
       refine pure_ (i := 5) (N := some 44) (v := ?_) (a' := ?_) #[true, true, true, true, false, true, false, false, false, false, false, false, false, false, false, false, false, false, false, false, false, false, false] rfl rfl (any_of HT_.out (by kernel_rfl)) (fun _ _ _ h => h) (Or.inl ⟨by rfl, ?_⟩) ?_ ?_
       rotate_left
       ·
        intro w'
        go_simp
        with_reducible rfl
       rotate_left
       ·
        simp only [Act.put, List.setIfInBounds_toArray, List.set_cons_zero, List.set_cons_succ, i64_w, i32_w]
        rfl
       refine pure_ (i := 6) (N := some 45) (v := ?_) (a' := ?_) #[true, true, true, true, false, true, true, false, false, false, false, false, false, false, false, false, false, false, false, false, false, false, false] rfl rfl (any_of HT_.out (by kernel_rfl)) (fun _ _ _ h => h) (Or.inl ⟨by rfl, ?_⟩) ?_ ?_
       rotate_left
       ·
        intro w'
        go_simp
        with_reducible rfl
       rotate_left
       ·
        simp only [Act.put, List.setIfInBounds_toArray, List.set_cons_zero, List.set_cons_succ, i64_w, i32_w]
        rfl
       refine pure_ (i := 7) (N := some 46) (v := ?_) (a' := ?_) #[true, true, true, true, false, true, true, true, false, false, false, false, false, false, false, false, false, false, false, false, false, false, false] rfl rfl (any_of HT_.out (by kernel_rfl)) (fun _ _ _ h => h) (Or.inl ⟨by rfl, ?_⟩) ?_ ?_
       rotate_left
       ·
        intro w'
        go_simp
        with_reducible rfl
       rotate_left
       ·
        simp only [Act.put, List.setIfInBounds_toArray, List.set_cons_zero, List.set_cons_succ, i64_w, i32_w]
        rfl
       refine pure_ (i := 8) (N := some 47) (v := ?_) (a' := ?_) #[true, true, true, true, false, true, true, true, true, false, false, false, false, false, false, false, false, false, false, false, false, false, false] rfl rfl (any_of HT_.out (by kernel_rfl)) (fun _ _ _ h => h) (Or.inl ⟨by rfl, ?_⟩) ?_ ?_
       rotate_left
       ·
        intro w'
        go_simp
        with_reducible rfl
       rotate_left
       ·
        simp only [Act.put, List.setIfInBounds_toArray, List.set_cons_zero, List.set_cons_succ, i64_w, i32_w]
        rfl
       refine pure_ (i := 10) (N := some 49) (v := ?_) (a' := ?_) #[true, true, true, true, false, true, true, true, true, false, true, false, false, false, false, false, false, false, false, false, false, false, false] rfl rfl (any_of HT_.out (by kernel_rfl)) (fun _ _ _ h => h) (Or.inl ⟨by rfl, ?_⟩) ?_ ?_
       rotate_left
       ·
        intro w'
        go_simp
        with_reducible rfl
       rotate_left
       ·
        simp only [Act.put, List.setIfInBounds_toArray, List.set_cons_zero, List.set_cons_succ, i64_w, i32_w]
        rfl
       refine pure_ (i := 11) (N := some 50) (v := ?_) (a' := ?_) #[true, true, true, true, false, true, true, true, true, false, true, true, false, false, false, false, false, false, false, false, false, false, false] rfl rfl (any_of HT_.out (by kernel_rfl)) (fun _ _ _ h => h) (Or.inl ⟨by rfl, ?_⟩) ?_ ?_
       rotate_left
       ·
        intro w'
        go_simp
        with_reducible rfl
       rotate_left
       ·
        simp only [Act.put, List.setIfInBounds_toArray, List.set_cons_zero, List.set_cons_succ, i64_w, i32_w]
        rfl
       refine pure_ (i := 12) (N := some 51) (v := ?_) (a' := ?_) #[true, true, true, true, false, true, true, true, true, false, true, true, true, false, false, false, false, false, false, false, false, false, false] rfl rfl (any_of HT_.out (by kernel_rfl)) (fun _ _ _ h => h) (Or.inl ⟨by rfl, ?_⟩) ?_ ?_
       rotate_left
       ·
        intro w'
        go_simp
        with_reducible rfl
       rotate_left
       ·
        simp only [Act.put, List.setIfInBounds_toArray, List.set_cons_zero, List.set_cons_succ, i64_w, i32_w]
        rfl
       refine pure_ (i := 13) (N := some 52) (v := ?_) (a' := ?_) #[true, true, true, true, false, true, true, true, true, false, true, true, true, true, false, false, false, false, false, false, false, false, false] rfl rfl (any_of HT_.out (by kernel_rfl)) (fun _ _ _ h => h) (Or.inl ⟨by rfl, ?_⟩) ?_ ?_
       rotate_left
       ·
        intro w'
        go_simp
        with_reducible rfl
       rotate_left
       ·
        simp only [Act.put, List.setIfInBounds_toArray, List.set_cons_zero, List.set_cons_succ, i64_w, i32_w]
        rfl
       refine take_ (i := 4) (N := some 43) (v := ?_) (a' := ?_) #[true, true, true, true, true, true, true, true, true, false, true, true, true, true, false, false, false, false, false, false, false, false, false] rfl rfl (take_ofW HT_.out HW_.out (by kernel_rfl)) (fun _ _ _ h => h) (Or.inl ⟨by rfl, ?_⟩) hHeld ?_ ?_
       rotate_left
       ·
        rintro w' ⟨s0, s1, s2, s3, s4, s5, s6, s7, s8, s9, s10, s11, s12, s13, s14⟩
        go_simp
        with_reducible rfl
       rotate_left
       ·
        simp only [Act.put, List.setIfInBounds_toArray, List.set_cons_zero, List.set_cons_succ, i64_w, i32_w]
        rfl
       refine take_ (i := 9) (N := some 48) (v := ?_) (a' := ?_) #[true, true, true, true, true, true, true, true, true, true, true, true, true, true, false, false, false, false, false, false, false, false, false] rfl rfl (take_ofW HT_.out HW_.out (by kernel_rfl)) (fun _ _ _ h => h) (Or.inl ⟨by rfl, ?_⟩) hHeld ?_ ?_
       rotate_left
       ·
        rintro w' ⟨s0, s1, s2, s3, s4, s5, s6, s7, s8, s9, s10, s11, s12, s13, s14⟩
        go_simp
        with_reducible rfl
       rotate_left
       ·
        simp only [Act.put, List.setIfInBounds_toArray, List.set_cons_zero, List.set_cons_succ, i64_w, i32_w]
        rfl
       refine take_ (i := 14) (N := some 53) (v := ?_) (a' := ?_) #[true, true, true, true, true, true, true, true, true, true, true, true, true, true, true, false, false, false, false, false, false, false, false] rfl rfl (take_ofW HT_.out HW_.out (by kernel_rfl)) (fun _ _ _ h => h) (Or.inl ⟨by rfl, ?_⟩) hHeld ?_ ?_
       rotate_left
       ·
        rintro w' ⟨s0, s1, s2, s3, s4, s5, s6, s7, s8, s9, s10, s11, s12, s13, s14⟩
        go_simp
        with_reducible rfl
       rotate_left
       ·
        simp only [Act.put, List.setIfInBounds_toArray, List.set_cons_zero, List.set_cons_succ, i64_w, i32_w]
        rfl
       refine join_ (σ := Value × Value × Value × Nat × Nat) 2 #[true, true, true, true, true, true, true, true, true, true, true, true, true, true, true, true, true, true, true, true, true, false, false] (fun s_ => [(54, .tuple #[.agg #[.int .i64 t182, .int .i64 t183, .int .i64 t184, s_.1], .agg #[s_.2.1, s_.2.2.1]]), (11, .pointer (some ⟨s_.2.2.2.1, 0, none⟩)), (12, .pointer (some ⟨s_.2.2.2.2, 0, none⟩)), (38, .tuple #[.agg #[.int .i64 t182, .int .i64 t183, .int .i64 t184, s_.1], .agg #[s_.2.1, s_.2.2.1]]), (55, .agg #[.int .i64 t182, .int .i64 t183, .int .i64 t184, s_.1]), (56, .agg #[s_.2.1, s_.2.2.1])]) (fun s_ w' => (w'.cell? (ad179.add ((x10_1).toNat * 5)) = some (.int .i64 ((rd_T24 l0 x10_1).f0)) ∧ w'.cell? ⟨(ad179.add ((x10_1).toNat * 5)).block, (ad179.add ((x10_1).toNat * 5)).off + 1, none⟩ = some (.int .i64 ((rd_T24 l0 x10_1).f1)) ∧ w'.cell? ⟨(ad179.add ((x10_1).toNat * 5)).block, (ad179.add ((x10_1).toNat * 5)).off + 2, none⟩ = some (.slice A179_2 ((rd_T24 l0 x10_1).f2).length c179_2) ∧ w'.cell? ⟨(ad179.add ((x10_1).toNat * 5)).block, (ad179.add ((x10_1).toNat * 5)).off + 3, none⟩ = some (.slice A179_3 ((rd_T24 l0 x10_1).f3).length c179_3) ∧ w'.cell? ⟨(ad179.add ((x10_1).toNat * 5)).block, (ad179.add ((x10_1).toNat * 5)).off + 4, none⟩ = some (.slice A179_4 ((rd_T24 l0 x10_1).f4).length c179_4) ∧ w'.cell? (ad179.add ((x10_1).toNat * 5)) = some (.int .i64 ((rd_T24 l0 x10_1).f0)) ∧ w'.cell? ⟨(ad179.add ((x10_1).toNat * 5)).block, (ad179.add ((x10_1).toNat * 5)).off + 1, none⟩ = some (.int .i64 ((rd_T24 l0 x10_1).f1)) ∧ w'.cell? ⟨(ad179.add ((x10_1).toNat * 5)).block, (ad179.add ((x10_1).toNat * 5)).off + 2, none⟩ = some (.slice A179_2 ((rd_T24 l0 x10_1).f2).length c179_2) ∧ w'.cell? ⟨(ad179.add ((x10_1).toNat * 5)).block, (ad179.add ((x10_1).toNat * 5)).off + 3, none⟩ = some (.slice A179_3 ((rd_T24 l0 x10_1).f3).length c179_3) ∧ w'.cell? ⟨(ad179.add ((x10_1).toNat * 5)).block, (ad179.add ((x10_1).toNat * 5)).off + 4, none⟩ = some (.slice A179_4 ((rd_T24 l0 x10_1).f4).length c179_4) ∧ w'.cell? (ad179.add ((x10_1).toNat * 5)) = some (.int .i64 ((rd_T24 l0 x10_1).f0)) ∧ w'.cell? ⟨(ad179.add ((x10_1).toNat * 5)).block, (ad179.add ((x10_1).toNat * 5)).off + 1, none⟩ = some (.int .i64 ((rd_T24 l0 x10_1).f1)) ∧ w'.cell? ⟨(ad179.add ((x10_1).toNat * 5)).block, (ad179.add ((x10_1).toNat * 5)).off + 2, none⟩ = some (.slice A179_2 ((rd_T24 l0 x10_1).f2).length c179_2) ∧ w'.cell? ⟨(ad179.add ((x10_1).toNat * 5)).block, (ad179.add ((x10_1).toNat * 5)).off + 3, none⟩ = some (.slice A179_3 ((rd_T24 l0 x10_1).f3).length c179_3) ∧ w'.cell? ⟨(ad179.add ((x10_1).toNat * 5)).block, (ad179.add ((x10_1).toNat * 5)).off + 4, none⟩ = some (.slice A179_4 ((rd_T24 l0 x10_1).f4).length c179_4)) ∧ (Kd.N k102 102 w' w.heap.size (fun k_ => some k_ ≠ (s_.2.1 : Value).ownBlock ∧ some k_ ≠ (s_.2.2.1 : Value).ownBlock ∧ some k_ ≠ (u8 : Value).ownBlock ∧ some k_ ≠ (u9 : Value).ownBlock ∧ k_ ≠ s_.2.2.2.1 ∧ k_ ≠ s_.2.2.2.2) s_.1 t185) ∧ (Kd.R (Kd.int .i64) 3 w' w.heap.size (fun _ => True) s_.2.1 t188) ∧ (Kd.N (Kd.slice 3 (Kd.int .i64)) 22 w' w.heap.size (fun k_ => some k_ ≠ (s_.1 : Value).ownBlock ∧ some k_ ≠ (s_.2.1 : Value).ownBlock ∧ some k_ ≠ (u8 : Value).ownBlock ∧ some k_ ≠ (u9 : Value).ownBlock ∧ k_ ≠ s_.2.2.2.1 ∧ k_ ≠ s_.2.2.2.2) s_.2.2.1 t191) ∧ (Kd.N k28 28 w' w.heap.size (fun k_ => some k_ ≠ (s_.1 : Value).ownBlock ∧ some k_ ≠ (s_.2.1 : Value).ownBlock ∧ some k_ ≠ (s_.2.2.1 : Value).ownBlock ∧ some k_ ≠ (u9 : Value).ownBlock ∧ k_ ≠ s_.2.2.2.1 ∧ k_ ≠ s_.2.2.2.2) u8 x8_1) ∧ (Kd.N k31 31 w' w.heap.size (fun k_ => some k_ ≠ (s_.1 : Value).ownBlock ∧ some k_ ≠ (s_.2.1 : Value).ownBlock ∧ some k_ ≠ (s_.2.2.1 : Value).ownBlock ∧ some k_ ≠ (u8 : Value).ownBlock ∧ k_ ≠ s_.2.2.2.1 ∧ k_ ≠ s_.2.2.2.2) u9 x9_1) ∧ (w'.heap[s_.2.2.2.1]? = some (.cells #[.int .i64 0, .int .i64 0, .int .i64 0, .slice none 0 0] 28 (0, 0))) ∧ (w'.heap[s_.2.2.2.2]? = some (.cells #[.slice none 0 0, .slice none 0 0] 31 (0, 0))) ∧ (w.heap.size ≤ s_.2.2.2.1) ∧ (w.heap.size ≤ s_.2.2.2.1) ∧ (s_.2.2.2.2 ≠ s_.2.2.2.1) ∧ (s_.2.2.2.1 ≠ s_.2.2.2.2) ∧ (w.heap.size ≤ s_.2.2.2.2) ∧ (w.heap.size ≤ s_.2.2.2.2) ∧ (Below w.heap.size w w')) ?_ ?_
       rotate_left
       ·
        intro hJ15_19_20
        refine join_ (σ := Value × Value × Value × Nat) 3 #[true, true, true, true, true, true, true, true, true, true, true, true, true, true, true, true, true, true, true, true, false, false, false] (fun s_ => [(54, .tuple #[.agg #[.int .i64 t182, .int .i64 t183, .int .i64 t184, s_.1], .agg #[s_.2.1, s_.2.2.1]]), (11, .pointer (some ⟨s_.2.2.2, 0, none⟩)), (38, .tuple #[.agg #[.int .i64 t182, .int .i64 t183, .int .i64 t184, s_.1], .agg #[s_.2.1, s_.2.2.1]]), (55, .agg #[.int .i64 t182, .int .i64 t183, .int .i64 t184, s_.1]), (56, .agg #[s_.2.1, s_.2.2.1])]) (fun s_ w' => (w'.cell? (ad179.add ((x10_1).toNat * 5)) = some (.int .i64 ((rd_T24 l0 x10_1).f0)) ∧ w'.cell? ⟨(ad179.add ((x10_1).toNat * 5)).block, (ad179.add ((x10_1).toNat * 5)).off + 1, none⟩ = some (.int .i64 ((rd_T24 l0 x10_1).f1)) ∧ w'.cell? ⟨(ad179.add ((x10_1).toNat * 5)).block, (ad179.add ((x10_1).toNat * 5)).off + 2, none⟩ = some (.slice A179_2 ((rd_T24 l0 x10_1).f2).length c179_2) ∧ w'.cell? ⟨(ad179.add ((x10_1).toNat * 5)).block, (ad179.add ((x10_1).toNat * 5)).off + 3, none⟩ = some (.slice A179_3 ((rd_T24 l0 x10_1).f3).length c179_3) ∧ w'.cell? ⟨(ad179.add ((x10_1).toNat * 5)).block, (ad179.add ((x10_1).toNat * 5)).off + 4, none⟩ = some (.slice A179_4 ((rd_T24 l0 x10_1).f4).length c179_4) ∧ w'.cell? (ad179.add ((x10_1).toNat * 5)) = some (.int .i64 ((rd_T24 l0 x10_1).f0)) ∧ w'.cell? ⟨(ad179.add ((x10_1).toNat * 5)).block, (ad179.add ((x10_1).toNat * 5)).off + 1, none⟩ = some (.int .i64 ((rd_T24 l0 x10_1).f1)) ∧ w'.cell? ⟨(ad179.add ((x10_1).toNat * 5)).block, (ad179.add ((x10_1).toNat * 5)).off + 2, none⟩ = some (.slice A179_2 ((rd_T24 l0 x10_1).f2).length c179_2) ∧ w'.cell? ⟨(ad179.add ((x10_1).toNat * 5)).block, (ad179.add ((x10_1).toNat * 5)).off + 3, none⟩ = some (.slice A179_3 ((rd_T24 l0 x10_1).f3).length c179_3) ∧ w'.cell? ⟨(ad179.add ((x10_1).toNat * 5)).block, (ad179.add ((x10_1).toNat * 5)).off + 4, none⟩ = some (.slice A179_4 ((rd_T24 l0 x10_1).f4).length c179_4) ∧ w'.cell? (ad179.add ((x10_1).toNat * 5)) = some (.int .i64 ((rd_T24 l0 x10_1).f0)) ∧ w'.cell? ⟨(ad179.add ((x10_1).toNat * 5)).block, (ad179.add ((x10_1).toNat * 5)).off + 1, none⟩ = some (.int .i64 ((rd_T24 l0 x10_1).f1)) ∧ w'.cell? ⟨(ad179.add ((x10_1).toNat * 5)).block, (ad179.add ((x10_1).toNat * 5)).off + 2, none⟩ = some (.slice A179_2 ((rd_T24 l0 x10_1).f2).length c179_2) ∧ w'.cell? ⟨(ad179.add ((x10_1).toNat * 5)).block, (ad179.add ((x10_1).toNat * 5)).off + 3, none⟩ = some (.slice A179_3 ((rd_T24 l0 x10_1).f3).length c179_3) ∧ w'.cell? ⟨(ad179.add ((x10_1).toNat * 5)).block, (ad179.add ((x10_1).toNat * 5)).off + 4, none⟩ = some (.slice A179_4 ((rd_T24 l0 x10_1).f4).length c179_4)) ∧ (Kd.N k102 102 w' w.heap.size (fun k_ => some k_ ≠ (s_.2.1 : Value).ownBlock ∧ some k_ ≠ (s_.2.2.1 : Value).ownBlock ∧ some k_ ≠ (u8 : Value).ownBlock ∧ some k_ ≠ (u9 : Value).ownBlock ∧ k_ ≠ s_.2.2.2) s_.1 t185) ∧ (Kd.R (Kd.int .i64) 3 w' w.heap.size (fun _ => True) s_.2.1 t188) ∧ (Kd.N (Kd.slice 3 (Kd.int .i64)) 22 w' w.heap.size (fun k_ => some k_ ≠ (s_.1 : Value).ownBlock ∧ some k_ ≠ (s_.2.1 : Value).ownBlock ∧ some k_ ≠ (u8 : Value).ownBlock ∧ some k_ ≠ (u9 : Value).ownBlock ∧ k_ ≠ s_.2.2.2) s_.2.2.1 t191) ∧ (Kd.N k28 28 w' w.heap.size (fun k_ => some k_ ≠ (s_.1 : Value).ownBlock ∧ some k_ ≠ (s_.2.1 : Value).ownBlock ∧ some k_ ≠ (s_.2.2.1 : Value).ownBlock ∧ some k_ ≠ (u9 : Value).ownBlock ∧ k_ ≠ s_.2.2.2) u8 x8_1) ∧ (Kd.N k31 31 w' w.heap.size (fun k_ => some k_ ≠ (s_.1 : Value).ownBlock ∧ some k_ ≠ (s_.2.1 : Value).ownBlock ∧ some k_ ≠ (s_.2.2.1 : Value).ownBlock ∧ some k_ ≠ (u8 : Value).ownBlock ∧ k_ ≠ s_.2.2.2) u9 x9_1) ∧ (w'.heap[s_.2.2.2]? = some (.cells #[.int .i64 0, .int .i64 0, .int .i64 0, .slice none 0 0] 28 (0, 0))) ∧ (w.heap.size ≤ s_.2.2.2) ∧ (w.heap.size ≤ s_.2.2.2) ∧ (Below w.heap.size w w')) ?_ ?_
        rotate_left
        ·
         intro hJ15_19
         refine join_ (σ := Value × Value × Value × Nat) 3 #[true, true, true, true, true, true, true, true, true, true, true, true, true, true, true, true, true, true, true, false, true, false, false] (fun s_ => [(54, .tuple #[.agg #[.int .i64 t182, .int .i64 t183, .int .i64 t184, s_.1], .agg #[s_.2.1, s_.2.2.1]]), (12, .pointer (some ⟨s_.2.2.2, 0, none⟩)), (38, .tuple #[.agg #[.int .i64 t182, .int .i64 t183, .int .i64 t184, s_.1], .agg #[s_.2.1, s_.2.2.1]]), (55, .agg #[.int .i64 t182, .int .i64 t183, .int .i64 t184, s_.1]), (56, .agg #[s_.2.1, s_.2.2.1])]) (fun s_ w' => (w'.cell? (ad179.add ((x10_1).toNat * 5)) = some (.int .i64 ((rd_T24 l0 x10_1).f0)) ∧ w'.cell? ⟨(ad179.add ((x10_1).toNat * 5)).block, (ad179.add ((x10_1).toNat * 5)).off + 1, none⟩ = some (.int .i64 ((rd_T24 l0 x10_1).f1)) ∧ w'.cell? ⟨(ad179.add ((x10_1).toNat * 5)).block, (ad179.add ((x10_1).toNat * 5)).off + 2, none⟩ = some (.slice A179_2 ((rd_T24 l0 x10_1).f2).length c179_2) ∧ w'.cell? ⟨(ad179.add ((x10_1).toNat * 5)).block, (ad179.add ((x10_1).toNat * 5)).off + 3, none⟩ = some (.slice A179_3 ((rd_T24 l0 x10_1).f3).length c179_3) ∧ w'.cell? ⟨(ad179.add ((x10_1).toNat * 5)).block, (ad179.add ((x10_1).toNat * 5)).off + 4, none⟩ = some (.slice A179_4 ((rd_T24 l0 x10_1).f4).length c179_4) ∧ w'.cell? (ad179.add ((x10_1).toNat * 5)) = some (.int .i64 ((rd_T24 l0 x10_1).f0)) ∧ w'.cell? ⟨(ad179.add ((x10_1).toNat * 5)).block, (ad179.add ((x10_1).toNat * 5)).off + 1, none⟩ = some (.int .i64 ((rd_T24 l0 x10_1).f1)) ∧ w'.cell? ⟨(ad179.add ((x10_1).toNat * 5)).block, (ad179.add ((x10_1).toNat * 5)).off + 2, none⟩ = some (.slice A179_2 ((rd_T24 l0 x10_1).f2).length c179_2) ∧ w'.cell? ⟨(ad179.add ((x10_1).toNat * 5)).block, (ad179.add ((x10_1).toNat * 5)).off + 3, none⟩ = some (.slice A179_3 ((rd_T24 l0 x10_1).f3).length c179_3) ∧ w'.cell? ⟨(ad179.add ((x10_1).toNat * 5)).block, (ad179.add ((x10_1).toNat * 5)).off + 4, none⟩ = some (.slice A179_4 ((rd_T24 l0 x10_1).f4).length c179_4) ∧ w'.cell? (ad179.add ((x10_1).toNat * 5)) = some (.int .i64 ((rd_T24 l0 x10_1).f0)) ∧ w'.cell? ⟨(ad179.add ((x10_1).toNat * 5)).block, (ad179.add ((x10_1).toNat * 5)).off + 1, none⟩ = some (.int .i64 ((rd_T24 l0 x10_1).f1)) ∧ w'.cell? ⟨(ad179.add ((x10_1).toNat * 5)).block, (ad179.add ((x10_1).toNat * 5)).off + 2, none⟩ = some (.slice A179_2 ((rd_T24 l0 x10_1).f2).length c179_2) ∧ w'.cell? ⟨(ad179.add ((x10_1).toNat * 5)).block, (ad179.add ((x10_1).toNat * 5)).off + 3, none⟩ = some (.slice A179_3 ((rd_T24 l0 x10_1).f3).length c179_3) ∧ w'.cell? ⟨(ad179.add ((x10_1).toNat * 5)).block, (ad179.add ((x10_1).toNat * 5)).off + 4, none⟩ = some (.slice A179_4 ((rd_T24 l0 x10_1).f4).length c179_4)) ∧ (Kd.N k102 102 w' w.heap.size (fun k_ => some k_ ≠ (s_.2.1 : Value).ownBlock ∧ some k_ ≠ (s_.2.2.1 : Value).ownBlock ∧ some k_ ≠ (u8 : Value).ownBlock ∧ some k_ ≠ (u9 : Value).ownBlock ∧ k_ ≠ s_.2.2.2) s_.1 t185) ∧ (Kd.R (Kd.int .i64) 3 w' w.heap.size (fun _ => True) s_.2.1 t188) ∧ (Kd.N (Kd.slice 3 (Kd.int .i64)) 22 w' w.heap.size (fun k_ => some k_ ≠ (s_.1 : Value).ownBlock ∧ some k_ ≠ (s_.2.1 : Value).ownBlock ∧ some k_ ≠ (u8 : Value).ownBlock ∧ some k_ ≠ (u9 : Value).ownBlock ∧ k_ ≠ s_.2.2.2) s_.2.2.1 t191) ∧ (Kd.N k28 28 w' w.heap.size (fun k_ => some k_ ≠ (s_.1 : Value).ownBlock ∧ some k_ ≠ (s_.2.1 : Value).ownBlock ∧ some k_ ≠ (s_.2.2.1 : Value).ownBlock ∧ some k_ ≠ (u9 : Value).ownBlock ∧ k_ ≠ s_.2.2.2) u8 x8_1) ∧ (Kd.N k31 31 w' w.heap.size (fun k_ => some k_ ≠ (s_.1 : Value).ownBlock ∧ some k_ ≠ (s_.2.1 : Value).ownBlock ∧ some k_ ≠ (s_.2.2.1 : Value).ownBlock ∧ some k_ ≠ (u8 : Value).ownBlock ∧ k_ ≠ s_.2.2.2) u9 x9_1) ∧ (w'.heap[s_.2.2.2]? = some (.cells #[.slice none 0 0, .slice none 0 0] 31 (0, 0))) ∧ (w.heap.size ≤ s_.2.2.2) ∧ (w.heap.size ≤ s_.2.2.2) ∧ (Below w.heap.size w w')) ?_ ?_
         rotate_left
         ·
          intro hJ15_20
          refine join_ (σ := Nat × Nat) 6 #[true, true, true, true, true, true, true, true, true, true, true, true, true, true, true, false, false, false, false, true, true, false, false] (fun s_ => [(11, .pointer (some ⟨s_.1, 0, none⟩)), (12, .pointer (some ⟨s_.2, 0, none⟩))]) (fun s_ w' => (w'.cell? (ad179.add ((x10_1).toNat * 5)) = some (.int .i64 ((rd_T24 l0 x10_1).f0)) ∧ w'.cell? ⟨(ad179.add ((x10_1).toNat * 5)).block, (ad179.add ((x10_1).toNat * 5)).off + 1, none⟩ = some (.int .i64 ((rd_T24 l0 x10_1).f1)) ∧ w'.cell? ⟨(ad179.add ((x10_1).toNat * 5)).block, (ad179.add ((x10_1).toNat * 5)).off + 2, none⟩ = some (.slice A179_2 ((rd_T24 l0 x10_1).f2).length c179_2) ∧ w'.cell? ⟨(ad179.add ((x10_1).toNat * 5)).block, (ad179.add ((x10_1).toNat * 5)).off + 3, none⟩ = some (.slice A179_3 ((rd_T24 l0 x10_1).f3).length c179_3) ∧ w'.cell? ⟨(ad179.add ((x10_1).toNat * 5)).block, (ad179.add ((x10_1).toNat * 5)).off + 4, none⟩ = some (.slice A179_4 ((rd_T24 l0 x10_1).f4).length c179_4) ∧ w'.cell? (ad179.add ((x10_1).toNat * 5)) = some (.int .i64 ((rd_T24 l0 x10_1).f0)) ∧ w'.cell? ⟨(ad179.add ((x10_1).toNat * 5)).block, (ad179.add ((x10_1).toNat * 5)).off + 1, none⟩ = some (.int .i64 ((rd_T24 l0 x10_1).f1)) ∧ w'.cell? ⟨(ad179.add ((x10_1).toNat * 5)).block, (ad179.add ((x10_1).toNat * 5)).off + 2, none⟩ = some (.slice A179_2 ((rd_T24 l0 x10_1).f2).length c179_2) ∧ w'.cell? ⟨(ad179.add ((x10_1).toNat * 5)).block, (ad179.add ((x10_1).toNat * 5)).off + 3, none⟩ = some (.slice A179_3 ((rd_T24 l0 x10_1).f3).length c179_3) ∧ w'.cell? ⟨(ad179.add ((x10_1).toNat * 5)).block, (ad179.add ((x10_1).toNat * 5)).off + 4, none⟩ = some (.slice A179_4 ((rd_T24 l0 x10_1).f4).length c179_4) ∧ w'.cell? (ad179.add ((x10_1).toNat * 5)) = some (.int .i64 ((rd_T24 l0 x10_1).f0)) ∧ w'.cell? ⟨(ad179.add ((x10_1).toNat * 5)).block, (ad179.add ((x10_1).toNat * 5)).off + 1, none⟩ = some (.int .i64 ((rd_T24 l0 x10_1).f1)) ∧ w'.cell? ⟨(ad179.add ((x10_1).toNat * 5)).block, (ad179.add ((x10_1).toNat * 5)).off + 2, none⟩ = some (.slice A179_2 ((rd_T24 l0 x10_1).f2).length c179_2) ∧ w'.cell? ⟨(ad179.add ((x10_1).toNat * 5)).block, (ad179.add ((x10_1).toNat * 5)).off + 3, none⟩ = some (.slice A179_3 ((rd_T24 l0 x10_1).f3).length c179_3) ∧ w'.cell? ⟨(ad179.add ((x10_1).toNat * 5)).block, (ad179.add ((x10_1).toNat * 5)).off + 4, none⟩ = some (.slice A179_4 ((rd_T24 l0 x10_1).f4).length c179_4)) ∧ (Kd.N k28 28 w' w.heap.size (fun k_ => some k_ ≠ (u9 : Value).ownBlock ∧ k_ ≠ s_.1 ∧ k_ ≠ s_.2) u8 x8_1) ∧ (Kd.N k31 31 w' w.heap.size (fun k_ => some k_ ≠ (u8 : Value).ownBlock ∧ k_ ≠ s_.1 ∧ k_ ≠ s_.2) u9 x9_1) ∧ (w'.heap[s_.1]? = some (.cells #[.int .i64 0, .int .i64 0, .int .i64 0, .slice none 0 0] 28 (0, 0))) ∧ (w'.heap[s_.2]? = some (.cells #[.slice none 0 0, .slice none 0 0] 31 (0, 0))) ∧ (w.heap.size ≤ s_.1) ∧ (w.heap.size ≤ s_.1) ∧ (s_.2 ≠ s_.1) ∧ (s_.1 ≠ s_.2) ∧ (w.heap.size ≤ s_.2) ∧ (w.heap.size ≤ s_.2) ∧ (Below w.heap.size w w')) ?_ ?_
          rotate_left
          ·
           intro hJ19_20
           refine join_ (σ := Value × Value × Value) 4 #[true, true, true, true, true, true, true, true, true, true, true, true, true, true, true, true, true, true, true, false, false, false, false] (fun s_ => [(54, .tuple #[.agg #[.int .i64 t182, .int .i64 t183, .int .i64 t184, s_.1], .agg #[s_.2.1, s_.2.2]]), (38, .tuple #[.agg #[.int .i64 t182, .int .i64 t183, .int .i64 t184, s_.1], .agg #[s_.2.1, s_.2.2]]), (55, .agg #[.int .i64 t182, .int .i64 t183, .int .i64 t184, s_.1]), (56, .agg #[s_.2.1, s_.2.2])]) (fun s_ w' => (w'.cell? (ad179.add ((x10_1).toNat * 5)) = some (.int .i64 ((rd_T24 l0 x10_1).f0)) ∧ w'.cell? ⟨(ad179.add ((x10_1).toNat * 5)).block, (ad179.add ((x10_1).toNat * 5)).off + 1, none⟩ = some (.int .i64 ((rd_T24 l0 x10_1).f1)) ∧ w'.cell? ⟨(ad179.add ((x10_1).toNat * 5)).block, (ad179.add ((x10_1).toNat * 5)).off + 2, none⟩ = some (.slice A179_2 ((rd_T24 l0 x10_1).f2).length c179_2) ∧ w'.cell? ⟨(ad179.add ((x10_1).toNat * 5)).block, (ad179.add ((x10_1).toNat * 5)).off + 3, none⟩ = some (.slice A179_3 ((rd_T24 l0 x10_1).f3).length c179_3) ∧ w'.cell? ⟨(ad179.add ((x10_1).toNat * 5)).block, (ad179.add ((x10_1).toNat * 5)).off + 4, none⟩ = some (.slice A179_4 ((rd_T24 l0 x10_1).f4).length c179_4) ∧ w'.cell? (ad179.add ((x10_1).toNat * 5)) = some (.int .i64 ((rd_T24 l0 x10_1).f0)) ∧ w'.cell? ⟨(ad179.add ((x10_1).toNat * 5)).block, (ad179.add ((x10_1).toNat * 5)).off + 1, none⟩ = some (.int .i64 ((rd_T24 l0 x10_1).f1)) ∧ w'.cell? ⟨(ad179.add ((x10_1).toNat * 5)).block, (ad179.add ((x10_1).toNat * 5)).off + 2, none⟩ = some (.slice A179_2 ((rd_T24 l0 x10_1).f2).length c179_2) ∧ w'.cell? ⟨(ad179.add ((x10_1).toNat * 5)).block, (ad179.add ((x10_1).toNat * 5)).off + 3, none⟩ = some (.slice A179_3 ((rd_T24 l0 x10_1).f3).length c179_3) ∧ w'.cell? ⟨(ad179.add ((x10_1).toNat * 5)).block, (ad179.add ((x10_1).toNat * 5)).off + 4, none⟩ = some (.slice A179_4 ((rd_T24 l0 x10_1).f4).length c179_4) ∧ w'.cell? (ad179.add ((x10_1).toNat * 5)) = some (.int .i64 ((rd_T24 l0 x10_1).f0)) ∧ w'.cell? ⟨(ad179.add ((x10_1).toNat * 5)).block, (ad179.add ((x10_1).toNat * 5)).off + 1, none⟩ = some (.int .i64 ((rd_T24 l0 x10_1).f1)) ∧ w'.cell? ⟨(ad179.add ((x10_1).toNat * 5)).block, (ad179.add ((x10_1).toNat * 5)).off + 2, none⟩ = some (.slice A179_2 ((rd_T24 l0 x10_1).f2).length c179_2) ∧ w'.cell? ⟨(ad179.add ((x10_1).toNat * 5)).block, (ad179.add ((x10_1).toNat * 5)).off + 3, none⟩ = some (.slice A179_3 ((rd_T24 l0 x10_1).f3).length c179_3) ∧ w'.cell? ⟨(ad179.add ((x10_1).toNat * 5)).block, (ad179.add ((x10_1).toNat * 5)).off + 4, none⟩ = some (.slice A179_4 ((rd_T24 l0 x10_1).f4).length c179_4)) ∧ (Kd.N k102 102 w' w.heap.size (fun k_ => some k_ ≠ (s_.2.1 : Value).ownBlock ∧ some k_ ≠ (s_.2.2 : Value).ownBlock ∧ some k_ ≠ (u8 : Value).ownBlock ∧ some k_ ≠ (u9 : Value).ownBlock) s_.1 t185) ∧ (Kd.R (Kd.int .i64) 3 w' w.heap.size (fun _ => True) s_.2.1 t188) ∧ (Kd.N (Kd.slice 3 (Kd.int .i64)) 22 w' w.heap.size (fun k_ => some k_ ≠ (s_.1 : Value).ownBlock ∧ some k_ ≠ (s_.2.1 : Value).ownBlock ∧ some k_ ≠ (u8 : Value).ownBlock ∧ some k_ ≠ (u9 : Value).ownBlock) s_.2.2 t191) ∧ (Kd.N k28 28 w' w.heap.size (fun k_ => some k_ ≠ (s_.1 : Value).ownBlock ∧ some k_ ≠ (s_.2.1 : Value).ownBlock ∧ some k_ ≠ (s_.2.2 : Value).ownBlock ∧ some k_ ≠ (u9 : Value).ownBlock) u8 x8_1) ∧ (Kd.N k31 31 w' w.heap.size (fun k_ => some k_ ≠ (s_.1 : Value).ownBlock ∧ some k_ ≠ (s_.2.1 : Value).ownBlock ∧ some k_ ≠ (s_.2.2 : Value).ownBlock ∧ some k_ ≠ (u8 : Value).ownBlock) u9 x9_1) ∧ (Below w.heap.size w w')) ?_ ?_
           rotate_left
           ·
            intro hJ15
            refine join_ (σ := Nat) 7 #[true, true, true, true, true, true, true, true, true, true, true, true, true, true, true, false, false, false, false, true, false, false, false] (fun s_ => [(11, .pointer (some ⟨s_, 0, none⟩))]) (fun s_ w' => (w'.cell? (ad179.add ((x10_1).toNat * 5)) = some (.int .i64 ((rd_T24 l0 x10_1).f0)) ∧ w'.cell? ⟨(ad179.add ((x10_1).toNat * 5)).block, (ad179.add ((x10_1).toNat * 5)).off + 1, none⟩ = some (.int .i64 ((rd_T24 l0 x10_1).f1)) ∧ w'.cell? ⟨(ad179.add ((x10_1).toNat * 5)).block, (ad179.add ((x10_1).toNat * 5)).off + 2, none⟩ = some (.slice A179_2 ((rd_T24 l0 x10_1).f2).length c179_2) ∧ w'.cell? ⟨(ad179.add ((x10_1).toNat * 5)).block, (ad179.add ((x10_1).toNat * 5)).off + 3, none⟩ = some (.slice A179_3 ((rd_T24 l0 x10_1).f3).length c179_3) ∧ w'.cell? ⟨(ad179.add ((x10_1).toNat * 5)).block, (ad179.add ((x10_1).toNat * 5)).off + 4, none⟩ = some (.slice A179_4 ((rd_T24 l0 x10_1).f4).length c179_4) ∧ w'.cell? (ad179.add ((x10_1).toNat * 5)) = some (.int .i64 ((rd_T24 l0 x10_1).f0)) ∧ w'.cell? ⟨(ad179.add ((x10_1).toNat * 5)).block, (ad179.add ((x10_1).toNat * 5)).off + 1, none⟩ = some (.int .i64 ((rd_T24 l0 x10_1).f1)) ∧ w'.cell? ⟨(ad179.add ((x10_1).toNat * 5)).block, (ad179.add ((x10_1).toNat * 5)).off + 2, none⟩ = some (.slice A179_2 ((rd_T24 l0 x10_1).f2).length c179_2) ∧ w'.cell? ⟨(ad179.add ((x10_1).toNat * 5)).block, (ad179.add ((x10_1).toNat * 5)).off + 3, none⟩ = some (.slice A179_3 ((rd_T24 l0 x10_1).f3).length c179_3) ∧ w'.cell? ⟨(ad179.add ((x10_1).toNat * 5)).block, (ad179.add ((x10_1).toNat * 5)).off + 4, none⟩ = some (.slice A179_4 ((rd_T24 l0 x10_1).f4).length c179_4) ∧ w'.cell? (ad179.add ((x10_1).toNat * 5)) = some (.int .i64 ((rd_T24 l0 x10_1).f0)) ∧ w'.cell? ⟨(ad179.add ((x10_1).toNat * 5)).block, (ad179.add ((x10_1).toNat * 5)).off + 1, none⟩ = some (.int .i64 ((rd_T24 l0 x10_1).f1)) ∧ w'.cell? ⟨(ad179.add ((x10_1).toNat * 5)).block, (ad179.add ((x10_1).toNat * 5)).off + 2, none⟩ = some (.slice A179_2 ((rd_T24 l0 x10_1).f2).length c179_2) ∧ w'.cell? ⟨(ad179.add ((x10_1).toNat * 5)).block, (ad179.add ((x10_1).toNat * 5)).off + 3, none⟩ = some (.slice A179_3 ((rd_T24 l0 x10_1).f3).length c179_3) ∧ w'.cell? ⟨(ad179.add ((x10_1).toNat * 5)).block, (ad179.add ((x10_1).toNat * 5)).off + 4, none⟩ = some (.slice A179_4 ((rd_T24 l0 x10_1).f4).length c179_4)) ∧ (Kd.N k28 28 w' w.heap.size (fun k_ => some k_ ≠ (u9 : Value).ownBlock ∧ k_ ≠ s_) u8 x8_1) ∧ (Kd.N k31 31 w' w.heap.size (fun k_ => some k_ ≠ (u8 : Value).ownBlock ∧ k_ ≠ s_) u9 x9_1) ∧ (w'.heap[s_]? = some (.cells #[.int .i64 0, .int .i64 0, .int .i64 0, .slice none 0 0] 28 (0, 0))) ∧ (w.heap.size ≤ s_) ∧ (w.heap.size ≤ s_) ∧ (Below w.heap.size w w')) ?_ ?_
            rotate_left
            ·
             intro hJ19
             refine join_ (σ := Nat) 7 #[true, true, true, true, true, true, true, true, true, true, true, true, true, true, true, false, false, false, false, false, true, false, false] (fun s_ => [(12, .pointer (some ⟨s_, 0, none⟩))]) (fun s_ w' => (w'.cell? (ad179.add ((x10_1).toNat * 5)) = some (.int .i64 ((rd_T24 l0 x10_1).f0)) ∧ w'.cell? ⟨(ad179.add ((x10_1).toNat * 5)).block, (ad179.add ((x10_1).toNat * 5)).off + 1, none⟩ = some (.int .i64 ((rd_T24 l0 x10_1).f1)) ∧ w'.cell? ⟨(ad179.add ((x10_1).toNat * 5)).block, (ad179.add ((x10_1).toNat * 5)).off + 2, none⟩ = some (.slice A179_2 ((rd_T24 l0 x10_1).f2).length c179_2) ∧ w'.cell? ⟨(ad179.add ((x10_1).toNat * 5)).block, (ad179.add ((x10_1).toNat * 5)).off + 3, none⟩ = some (.slice A179_3 ((rd_T24 l0 x10_1).f3).length c179_3) ∧ w'.cell? ⟨(ad179.add ((x10_1).toNat * 5)).block, (ad179.add ((x10_1).toNat * 5)).off + 4, none⟩ = some (.slice A179_4 ((rd_T24 l0 x10_1).f4).length c179_4) ∧ w'.cell? (ad179.add ((x10_1).toNat * 5)) = some (.int .i64 ((rd_T24 l0 x10_1).f0)) ∧ w'.cell? ⟨(ad179.add ((x10_1).toNat * 5)).block, (ad179.add ((x10_1).toNat * 5)).off + 1, none⟩ = some (.int .i64 ((rd_T24 l0 x10_1).f1)) ∧ w'.cell? ⟨(ad179.add ((x10_1).toNat * 5)).block, (ad179.add ((x10_1).toNat * 5)).off + 2, none⟩ = some (.slice A179_2 ((rd_T24 l0 x10_1).f2).length c179_2) ∧ w'.cell? ⟨(ad179.add ((x10_1).toNat * 5)).block, (ad179.add ((x10_1).toNat * 5)).off + 3, none⟩ = some (.slice A179_3 ((rd_T24 l0 x10_1).f3).length c179_3) ∧ w'.cell? ⟨(ad179.add ((x10_1).toNat * 5)).block, (ad179.add ((x10_1).toNat * 5)).off + 4, none⟩ = some (.slice A179_4 ((rd_T24 l0 x10_1).f4).length c179_4) ∧ w'.cell? (ad179.add ((x10_1).toNat * 5)) = some (.int .i64 ((rd_T24 l0 x10_1).f0)) ∧ w'.cell? ⟨(ad179.add ((x10_1).toNat * 5)).block, (ad179.add ((x10_1).toNat * 5)).off + 1, none⟩ = some (.int .i64 ((rd_T24 l0 x10_1).f1)) ∧ w'.cell? ⟨(ad179.add ((x10_1).toNat * 5)).block, (ad179.add ((x10_1).toNat * 5)).off + 2, none⟩ = some (.slice A179_2 ((rd_T24 l0 x10_1).f2).length c179_2) ∧ w'.cell? ⟨(ad179.add ((x10_1).toNat * 5)).block, (ad179.add ((x10_1).toNat * 5)).off + 3, none⟩ = some (.slice A179_3 ((rd_T24 l0 x10_1).f3).length c179_3) ∧ w'.cell? ⟨(ad179.add ((x10_1).toNat * 5)).block, (ad179.add ((x10_1).toNat * 5)).off + 4, none⟩ = some (.slice A179_4 ((rd_T24 l0 x10_1).f4).length c179_4)) ∧ (Kd.N k28 28 w' w.heap.size (fun k_ => some k_ ≠ (u9 : Value).ownBlock ∧ k_ ≠ s_) u8 x8_1) ∧ (Kd.N k31 31 w' w.heap.size (fun k_ => some k_ ≠ (u8 : Value).ownBlock ∧ k_ ≠ s_) u9 x9_1) ∧ (w'.heap[s_]? = some (.cells #[.slice none 0 0, .slice none 0 0] 31 (0, 0))) ∧ (w.heap.size ≤ s_) ∧ (w.heap.size ≤ s_) ∧ (Below w.heap.size w w')) ?_ ?_
             rotate_left
             ·
              intro hJ20
              refine three_ (i := 15) (j := 19) (k := 20) (Ni := some 54) (Nj := some 11) (Nk := some 12) #[true, true, true, true, true, true, true, true, true, true, true, true, true, true, true, true, false, false, false, false, false, false, false] #[true, true, true, true, true, true, true, true, true, true, true, true, true, true, true, false, false, false, false, true, false, false, false] #[true, true, true, true, true, true, true, true, true, true, true, true, true, true, true, false, false, false, false, false, true, false, false] rfl rfl rfl rfl rfl rfl (three_of HT_.out (by kernel_rfl)) (by decide) (by decide) (by decide) (fun K hK => ?_) (fun K hK => ?_) (fun K hK => ?_)
              ·
               skip
               refine goes_ Try.func9 (by kernel_rfl) rfl #[.int .i64 ((rd_T24 l0 x10_1).f0), .int .i64 ((rd_T24 l0 x10_1).f1), .slice A179_2 ((rd_T24 l0 x10_1).f2).length c179_2] (by rfl) rfl rfl (by (try simp only [List.map_toArray, List.map_cons, List.map_nil]); first | done | rfl | (simp only [List.length_drop, List.length_take]; rfl)) ?_
               with_reducible refine (fuguelaw09_shaped.calls k1 ((rd_T24 l0 x10_1).f0) ((rd_T24 l0 x10_1).f1) _ _ ((rd_T24 l0 x10_1).f2) t182 t183 t184 t185 t188 t191 _ ?side1 ?side2 A8.out).mono ?_
               (case side1 => repeat (first | exact (C_below HR181_2.out HB.out) | (with_reducible refine C_alloc ?_ _) | (with_reducible refine C_drewN ?_ _) | (with_reducible refine C_drew ?_)))
               (case side2 => exact HC181_2.out)
               rintro e w12 ⟨v186, v189, v192, rfl, ho0, ho1, ho2, hb⟩
               refine ⟨_, rfl, ?_⟩
               have n0_ := Am (N_mono (N_told (N_told (N_told (N_old (by (with_reducible repeat (first | apply N_alloc | apply N_drewN | apply N_drew)); exact HO_8.out) hb) (N_base ho0)) (R_base ho1)) (N_base ho2)) (fun _ h_ => h_.1))
               have n1_ := Am (N_mono (N_told (N_told (N_told (N_old (by (with_reducible repeat (first | apply N_alloc | apply N_drewN | apply N_drew)); exact HO_9.out) hb) (N_base ho0)) (R_base ho1)) (N_base ho2)) (fun _ h_ => h_.1))
               have n2_ := Am (N_lower (N_mono (ok' := fun k_ => some k_ ≠ (v189 : Value).ownBlock ∧ some k_ ≠ (v192 : Value).ownBlock ∧ some k_ ≠ (u8 : Value).ownBlock ∧ some k_ ≠ (u9 : Value).ownBlock) ho0 (fun k_ hk_ => ⟨hk_.2.1, hk_.2.2, (Kd.fresh' (N_lt (by (with_reducible repeat (first | apply N_alloc | apply N_drewN | apply N_drew)); exact HO_8.out)) k_ hk_.1), (Kd.fresh' (N_lt (by (with_reducible repeat (first | apply N_alloc | apply N_drewN | apply N_drew)); exact HO_9.out)) k_ hk_.1)⟩)) (below_size (by repeat (first | (with_reducible first | exact HB.out | apply below_alloc | apply pw_below_drewN | apply below_drew1) | exact HB.out))))
               have n3_ := Am (R_lower (R_mono (ok' := fun k_ => True) ho1 (fun _ hk_ => trivial)) (below_size (by repeat (first | (with_reducible first | exact HB.out | apply below_alloc | apply pw_below_drewN | apply below_drew1) | exact HB.out))))
               have n4_ := Am (N_lower (N_mono (ok' := fun k_ => some k_ ≠ (v186 : Value).ownBlock ∧ some k_ ≠ (v189 : Value).ownBlock ∧ some k_ ≠ (u8 : Value).ownBlock ∧ some k_ ≠ (u9 : Value).ownBlock) ho2 (fun k_ hk_ => ⟨hk_.2.1, hk_.2.2, (Kd.fresh' (N_lt (by (with_reducible repeat (first | apply N_alloc | apply N_drewN | apply N_drew)); exact HO_8.out)) k_ hk_.1), (Kd.fresh' (N_lt (by (with_reducible repeat (first | apply N_alloc | apply N_drewN | apply N_drew)); exact HO_9.out)) k_ hk_.1)⟩)) (below_size (by repeat (first | (with_reducible first | exact HB.out | apply below_alloc | apply pw_below_drewN | apply below_drew1) | exact HB.out))))
               have n5_ := Am (below_step (by repeat (first | (with_reducible first | exact HB.out | apply below_alloc | apply pw_below_drewN | apply below_drew1) | exact HB.out)) hb)
               clear HO_8
               clear HO_9
               clear HB
               have HO_8 := n0_
               have HO_9 := n1_
               have HO187 := n2_
               have HO190 := n3_
               have HO193 := n4_
               have HB := n5_
               clear n0_ n1_ n2_ n3_ n4_ n5_
               (try clear hb)
               (try clear hb2)
               (try clear hk)
               (try clear hi)
               (try clear ho0)
               (try clear ho1)
               (try clear ho2)
               refine hK.out _ _ ⟨((HB.out.cell (World.block_lt_of_cell? w _ hw179_0)).trans hw179_0), ((HB.out.cell (World.block_lt_of_cell? w _ hw179_1)).trans hw179_1), ((HB.out.cell (World.block_lt_of_cell? w _ hw179_2)).trans hw179_2), ((HB.out.cell (World.block_lt_of_cell? w _ hw179_3)).trans hw179_3), ((HB.out.cell (World.block_lt_of_cell? w _ hw179_4)).trans hw179_4), ((HB.out.cell (World.block_lt_of_cell? w _ hw180_0)).trans hw180_0), ((HB.out.cell (World.block_lt_of_cell? w _ hw180_1)).trans hw180_1), ((HB.out.cell (World.block_lt_of_cell? w _ hw180_2)).trans hw180_2), ((HB.out.cell (World.block_lt_of_cell? w _ hw180_3)).trans hw180_3), ((HB.out.cell (World.block_lt_of_cell? w _ hw180_4)).trans hw180_4), ((HB.out.cell (World.block_lt_of_cell? w _ hw181_0)).trans hw181_0), ((HB.out.cell (World.block_lt_of_cell? w _ hw181_1)).trans hw181_1), ((HB.out.cell (World.block_lt_of_cell? w _ hw181_2)).trans hw181_2), ((HB.out.cell (World.block_lt_of_cell? w _ hw181_3)).trans hw181_3), ((HB.out.cell (World.block_lt_of_cell? w _ hw181_4)).trans hw181_4)⟩ (fun hHeld => ?_)
               clear hK K
               refine norm_ (a' := ?_) ?_ ?_
               rotate_left
               ·
                show Act.put _ (some 54) _ = _
                simp only [Act.put, List.setIfInBounds_toArray, List.set_cons_zero, List.set_cons_succ, i64_w, i32_w]
                rfl
               refine pure_ (i := 16) (N := some 38) (v := ?_) (a' := ?_) #[true, true, true, true, true, true, true, true, true, true, true, true, true, true, true, true, true, false, false, false, false, false, false] rfl rfl (any_of HT_.out (by kernel_rfl)) (fun _ _ _ h => h) (Or.inl ⟨by rfl, ?_⟩) ?_ ?_
               rotate_left
               ·
                intro w'
                go_simp
                with_reducible rfl
               rotate_left
               ·
                simp only [Act.put, List.setIfInBounds_toArray, List.set_cons_zero, List.set_cons_succ, i64_w, i32_w]
                rfl
               refine pure_ (i := 17) (N := some 55) (v := ?_) (a' := ?_) #[true, true, true, true, true, true, true, true, true, true, true, true, true, true, true, true, true, true, false, false, false, false, false] rfl rfl (any_of HT_.out (by kernel_rfl)) (fun _ _ _ h => h) (Or.inl ⟨by rfl, ?_⟩) ?_ ?_
               rotate_left
               ·
                intro w'
                go_simp
                with_reducible rfl
               rotate_left
               ·
                simp only [Act.put, List.setIfInBounds_toArray, List.set_cons_zero, List.set_cons_succ, i64_w, i32_w]
                rfl
               refine pure_ (i := 18) (N := some 56) (v := ?_) (a' := ?_) #[true, true, true, true, true, true, true, true, true, true, true, true, true, true, true, true, true, true, true, false, false, false, false] rfl rfl (any_of HT_.out (by kernel_rfl)) (fun _ _ _ h => h) (Or.inl ⟨by rfl, ?_⟩) ?_ ?_
               rotate_left
               ·
                intro w'
                go_simp
                with_reducible rfl
               rotate_left
               ·
                simp only [Act.put, List.setIfInBounds_toArray, List.set_cons_zero, List.set_cons_succ, i64_w, i32_w]
                rfl
               exact norm_ (by first | (simp only [putAll, Act.put, List.setIfInBounds_toArray, List.set_cons_zero, List.set_cons_succ]; done) | (simp only [putAll, Act.put, List.setIfInBounds_toArray, List.set_cons_zero, List.set_cons_succ]; rfl)) (hJ15 (v186, v189, v192) _ ⟨hHeld, (by (with_reducible repeat (first | apply N_alloc | apply N_drewN | apply N_drew)); exact HO187.out), (by (with_reducible repeat (first | apply R_alloc | apply R_drewN | apply R_drew)); exact HO190.out), (by (with_reducible repeat (first | apply N_alloc | apply N_drewN | apply N_drew)); exact HO193.out), (by (with_reducible repeat (first | apply N_alloc | apply N_drewN | apply N_drew)); exact N_mono HO_8.out (fun _ hk => ⟨hk.1.1.2, ⟨hk.1.2, ⟨hk.2, hk.1.1.1⟩⟩⟩)), (by (with_reducible repeat (first | apply N_alloc | apply N_drewN | apply N_drew)); exact N_mono HO_9.out (fun _ hk => ⟨hk.1.1.2, ⟨hk.1.2, ⟨hk.2, hk.1.1.1⟩⟩⟩)), (by repeat (first | (with_reducible first | exact HB.out | apply below_alloc | apply pw_below_drewN | apply below_drew1) | exact HB.out))⟩)
              ·
               skip
               refine box_step ?hg (N := 11) ?hd (cs := #[.int .i64 0, .int .i64 0, .int .i64 0, .slice none 0 0]) (t := 28) ?hr ?_; (case hd => rfl); (case hg => rfl); (case hr => first | (go_simp; done) | (go_simp; rfl))
               intro gb194 hg w12 hbox hb
               have n0_ := Am (N_below (N_elderB (by (with_reducible repeat (first | apply N_alloc | apply N_drewN | apply N_drew)); exact HO_8.out) gb194 (Nat.le_of_eq hg.symm)) hb)
               have n1_ := Am (N_below (N_elderB (by (with_reducible repeat (first | apply N_alloc | apply N_drewN | apply N_drew)); exact HO_9.out) gb194 (Nat.le_of_eq hg.symm)) hb)
               have n2_ := Am (below_step (by repeat (first | (with_reducible first | exact HB.out | apply below_alloc | apply pw_below_drewN | apply below_drew1) | exact HB.out)) hb)
               have n3_ := Am (hbox)
               have n4_ := Am ((by rw [hg]; exact (below_size (by repeat (first | (with_reducible first | exact HB.out | apply below_alloc | apply pw_below_drewN | apply below_drew1) | exact HB.out))) : w.heap.size ≤ gb194))
               have n5_ := Am ((by rw [hg]; exact (below_size (by repeat (first | (with_reducible first | exact HB.out | apply below_alloc | apply pw_below_drewN | apply below_drew1) | exact HB.out))) : w.heap.size ≤ gb194))
               clear HO_8
               clear HO_9
               clear HB
               have HO_8 := n0_
               have HO_9 := n1_
               have HB := n2_
               have BK194 := n3_
               have GW194 := n4_
               have GE194 := n5_
               clear n0_ n1_ n2_ n3_ n4_ n5_
               clear hb hbox hg
               refine hK.out _ _ ⟨((HB.out.cell (World.block_lt_of_cell? w _ hw179_0)).trans hw179_0), ((HB.out.cell (World.block_lt_of_cell? w _ hw179_1)).trans hw179_1), ((HB.out.cell (World.block_lt_of_cell? w _ hw179_2)).trans hw179_2), ((HB.out.cell (World.block_lt_of_cell? w _ hw179_3)).trans hw179_3), ((HB.out.cell (World.block_lt_of_cell? w _ hw179_4)).trans hw179_4), ((HB.out.cell (World.block_lt_of_cell? w _ hw180_0)).trans hw180_0), ((HB.out.cell (World.block_lt_of_cell? w _ hw180_1)).trans hw180_1), ((HB.out.cell (World.block_lt_of_cell? w _ hw180_2)).trans hw180_2), ((HB.out.cell (World.block_lt_of_cell? w _ hw180_3)).trans hw180_3), ((HB.out.cell (World.block_lt_of_cell? w _ hw180_4)).trans hw180_4), ((HB.out.cell (World.block_lt_of_cell? w _ hw181_0)).trans hw181_0), ((HB.out.cell (World.block_lt_of_cell? w _ hw181_1)).trans hw181_1), ((HB.out.cell (World.block_lt_of_cell? w _ hw181_2)).trans hw181_2), ((HB.out.cell (World.block_lt_of_cell? w _ hw181_3)).trans hw181_3), ((HB.out.cell (World.block_lt_of_cell? w _ hw181_4)).trans hw181_4)⟩ (fun hHeld => ?_)
               clear hK K
               refine norm_ (a' := ?_) ?_ ?_
               rotate_left
               ·
                show Act.put _ (some 11) _ = _
                simp only [Act.put, List.setIfInBounds_toArray, List.set_cons_zero, List.set_cons_succ, i64_w, i32_w]
                rfl
               exact norm_ (by first | (simp only [putAll, Act.put, List.setIfInBounds_toArray, List.set_cons_zero, List.set_cons_succ]; done) | (simp only [putAll, Act.put, List.setIfInBounds_toArray, List.set_cons_zero, List.set_cons_succ]; rfl)) (hJ19 (gb194) _ ⟨hHeld, (by (with_reducible repeat (first | apply N_alloc | apply N_drewN | apply N_drew)); exact HO_8.out), (by (with_reducible repeat (first | apply N_alloc | apply N_drewN | apply N_drew)); exact HO_9.out), (by (with_reducible repeat (first | refine blk_drewN ?_ _ | refine blk_drew ?_ | refine blk_alloc ?_ _)); exact BK194.out), GW194.out, GE194.out, (by repeat (first | (with_reducible first | exact HB.out | apply below_alloc | apply pw_below_drewN | apply below_drew1 | refine below_set ?_ GE194.out) | exact HB.out))⟩)
              ·
               skip
               refine box_step ?hg (N := 12) ?hd (cs := #[.slice none 0 0, .slice none 0 0]) (t := 31) ?hr ?_; (case hd => rfl); (case hg => rfl); (case hr => first | (go_simp; done) | (go_simp; rfl))
               intro gb195 hg w12 hbox hb
               have n0_ := Am (N_below (N_elderB (by (with_reducible repeat (first | apply N_alloc | apply N_drewN | apply N_drew)); exact HO_8.out) gb195 (Nat.le_of_eq hg.symm)) hb)
               have n1_ := Am (N_below (N_elderB (by (with_reducible repeat (first | apply N_alloc | apply N_drewN | apply N_drew)); exact HO_9.out) gb195 (Nat.le_of_eq hg.symm)) hb)
               have n2_ := Am (below_step (by repeat (first | (with_reducible first | exact HB.out | apply below_alloc | apply pw_below_drewN | apply below_drew1) | exact HB.out)) hb)
               have n3_ := Am (hbox)
               have n4_ := Am ((by rw [hg]; exact (below_size (by repeat (first | (with_reducible first | exact HB.out | apply below_alloc | apply pw_below_drewN | apply below_drew1) | exact HB.out))) : w.heap.size ≤ gb195))
               have n5_ := Am ((by rw [hg]; exact (below_size (by repeat (first | (with_reducible first | exact HB.out | apply below_alloc | apply pw_below_drewN | apply below_drew1) | exact HB.out))) : w.heap.size ≤ gb195))
               clear HO_8
               clear HO_9
               clear HB
               have HO_8 := n0_
               have HO_9 := n1_
               have HB := n2_
               have BK195 := n3_
               have GW195 := n4_
               have GE195 := n5_
               clear n0_ n1_ n2_ n3_ n4_ n5_
               clear hb hbox hg
               refine hK.out _ _ ⟨((HB.out.cell (World.block_lt_of_cell? w _ hw179_0)).trans hw179_0), ((HB.out.cell (World.block_lt_of_cell? w _ hw179_1)).trans hw179_1), ((HB.out.cell (World.block_lt_of_cell? w _ hw179_2)).trans hw179_2), ((HB.out.cell (World.block_lt_of_cell? w _ hw179_3)).trans hw179_3), ((HB.out.cell (World.block_lt_of_cell? w _ hw179_4)).trans hw179_4), ((HB.out.cell (World.block_lt_of_cell? w _ hw180_0)).trans hw180_0), ((HB.out.cell (World.block_lt_of_cell? w _ hw180_1)).trans hw180_1), ((HB.out.cell (World.block_lt_of_cell? w _ hw180_2)).trans hw180_2), ((HB.out.cell (World.block_lt_of_cell? w _ hw180_3)).trans hw180_3), ((HB.out.cell (World.block_lt_of_cell? w _ hw180_4)).trans hw180_4), ((HB.out.cell (World.block_lt_of_cell? w _ hw181_0)).trans hw181_0), ((HB.out.cell (World.block_lt_of_cell? w _ hw181_1)).trans hw181_1), ((HB.out.cell (World.block_lt_of_cell? w _ hw181_2)).trans hw181_2), ((HB.out.cell (World.block_lt_of_cell? w _ hw181_3)).trans hw181_3), ((HB.out.cell (World.block_lt_of_cell? w _ hw181_4)).trans hw181_4)⟩ (fun hHeld => ?_)
               clear hK K
               refine norm_ (a' := ?_) ?_ ?_
               rotate_left
               ·
                show Act.put _ (some 12) _ = _
                simp only [Act.put, List.setIfInBounds_toArray, List.set_cons_zero, List.set_cons_succ, i64_w, i32_w]
                rfl
               exact norm_ (by first | (simp only [putAll, Act.put, List.setIfInBounds_toArray, List.set_cons_zero, List.set_cons_succ]; done) | (simp only [putAll, Act.put, List.setIfInBounds_toArray, List.set_cons_zero, List.set_cons_succ]; rfl)) (hJ20 (gb195) _ ⟨hHeld, (by (with_reducible repeat (first | apply N_alloc | apply N_drewN | apply N_drew)); exact HO_8.out), (by (with_reducible repeat (first | apply N_alloc | apply N_drewN | apply N_drew)); exact HO_9.out), (by (with_reducible repeat (first | refine blk_drewN ?_ _ | refine blk_drew ?_ | refine blk_alloc ?_ _)); exact BK195.out), GW195.out, GE195.out, (by repeat (first | (with_reducible first | exact HB.out | apply below_alloc | apply pw_below_drewN | apply below_drew1 | refine below_set ?_ GE195.out) | exact HB.out))⟩)
             ·
              skip
              rintro gb195 w13 ⟨hS_, h0_, h1_, h2_, h3_, h4_, h5_⟩
              have n0_ : Aside0 (Kd.N k28 28 w13 w.heap.size (fun k_ => some k_ ≠ (u9 : Value).ownBlock ∧ k_ ≠ gb195) u8 x8_1) := ⟨h0_⟩
              have n1_ : Aside0 (Kd.N k31 31 w13 w.heap.size (fun k_ => some k_ ≠ (u8 : Value).ownBlock ∧ k_ ≠ gb195) u9 x9_1) := ⟨h1_⟩
              have n2_ : Aside0 (w13.heap[gb195]? = some (.cells #[.slice none 0 0, .slice none 0 0] 31 (0, 0))) := ⟨h2_⟩
              have n3_ : Aside0 (w.heap.size ≤ gb195) := ⟨h3_⟩
              have n4_ : Aside0 (w.heap.size ≤ gb195) := ⟨h4_⟩
              have n5_ : Aside0 (Below w.heap.size w w13) := ⟨h5_⟩
              clear HO_8
              clear HO_9
              clear HB
              clear h0_ h1_ h2_ h3_ h4_ h5_
              have HO_8 := n0_
              have HO_9 := n1_
              have BK195 := n2_
              have GW195 := n3_
              have GE195 := n4_
              have HB := n5_
              clear n0_ n1_ n2_ n3_ n4_ n5_
              have hHeld : w13.cell? (ad179.add ((x10_1).toNat * 5)) = some (.int .i64 ((rd_T24 l0 x10_1).f0)) ∧ w13.cell? ⟨(ad179.add ((x10_1).toNat * 5)).block, (ad179.add ((x10_1).toNat * 5)).off + 1, none⟩ = some (.int .i64 ((rd_T24 l0 x10_1).f1)) ∧ w13.cell? ⟨(ad179.add ((x10_1).toNat * 5)).block, (ad179.add ((x10_1).toNat * 5)).off + 2, none⟩ = some (.slice A179_2 ((rd_T24 l0 x10_1).f2).length c179_2) ∧ w13.cell? ⟨(ad179.add ((x10_1).toNat * 5)).block, (ad179.add ((x10_1).toNat * 5)).off + 3, none⟩ = some (.slice A179_3 ((rd_T24 l0 x10_1).f3).length c179_3) ∧ w13.cell? ⟨(ad179.add ((x10_1).toNat * 5)).block, (ad179.add ((x10_1).toNat * 5)).off + 4, none⟩ = some (.slice A179_4 ((rd_T24 l0 x10_1).f4).length c179_4) ∧ w13.cell? (ad179.add ((x10_1).toNat * 5)) = some (.int .i64 ((rd_T24 l0 x10_1).f0)) ∧ w13.cell? ⟨(ad179.add ((x10_1).toNat * 5)).block, (ad179.add ((x10_1).toNat * 5)).off + 1, none⟩ = some (.int .i64 ((rd_T24 l0 x10_1).f1)) ∧ w13.cell? ⟨(ad179.add ((x10_1).toNat * 5)).block, (ad179.add ((x10_1).toNat * 5)).off + 2, none⟩ = some (.slice A179_2 ((rd_T24 l0 x10_1).f2).length c179_2) ∧ w13.cell? ⟨(ad179.add ((x10_1).toNat * 5)).block, (ad179.add ((x10_1).toNat * 5)).off + 3, none⟩ = some (.slice A179_3 ((rd_T24 l0 x10_1).f3).length c179_3) ∧ w13.cell? ⟨(ad179.add ((x10_1).toNat * 5)).block, (ad179.add ((x10_1).toNat * 5)).off + 4, none⟩ = some (.slice A179_4 ((rd_T24 l0 x10_1).f4).length c179_4) ∧ w13.cell? (ad179.add ((x10_1).toNat * 5)) = some (.int .i64 ((rd_T24 l0 x10_1).f0)) ∧ w13.cell? ⟨(ad179.add ((x10_1).toNat * 5)).block, (ad179.add ((x10_1).toNat * 5)).off + 1, none⟩ = some (.int .i64 ((rd_T24 l0 x10_1).f1)) ∧ w13.cell? ⟨(ad179.add ((x10_1).toNat * 5)).block, (ad179.add ((x10_1).toNat * 5)).off + 2, none⟩ = some (.slice A179_2 ((rd_T24 l0 x10_1).f2).length c179_2) ∧ w13.cell? ⟨(ad179.add ((x10_1).toNat * 5)).block, (ad179.add ((x10_1).toNat * 5)).off + 3, none⟩ = some (.slice A179_3 ((rd_T24 l0 x10_1).f3).length c179_3) ∧ w13.cell? ⟨(ad179.add ((x10_1).toNat * 5)).block, (ad179.add ((x10_1).toNat * 5)).off + 4, none⟩ = some (.slice A179_4 ((rd_T24 l0 x10_1).f4).length c179_4) := hS_
              refine norm_ (a' := ?_) ?_ ?_
              rotate_left
              ·
               simp only [putAll, Act.put, List.setIfInBounds_toArray, List.set_cons_zero, List.set_cons_succ]
               rfl
              refine two_ (i := 15) (j := 19) (Ni := some 54) (Nj := some 11) #[true, true, true, true, true, true, true, true, true, true, true, true, true, true, true, true, false, false, false, false, true, false, false] #[true, true, true, true, true, true, true, true, true, true, true, true, true, true, true, false, false, false, false, true, true, false, false] rfl rfl rfl rfl (two_of HT_.out (by kernel_rfl)) (by decide) (by decide) (fun K hK => ?_) (fun K hK => ?_)
              ·
               skip
               refine goes_ Try.func9 (by kernel_rfl) rfl #[.int .i64 ((rd_T24 l0 x10_1).f0), .int .i64 ((rd_T24 l0 x10_1).f1), .slice A179_2 ((rd_T24 l0 x10_1).f2).length c179_2] (by rfl) rfl rfl (by (try simp only [List.map_toArray, List.map_cons, List.map_nil]); first | done | rfl | (simp only [List.length_drop, List.length_take]; rfl)) ?_
               with_reducible refine (fuguelaw09_shaped.calls k1 ((rd_T24 l0 x10_1).f0) ((rd_T24 l0 x10_1).f1) _ _ ((rd_T24 l0 x10_1).f2) t182 t183 t184 t185 t188 t191 _ ?side1 ?side2 A8.out).mono ?_
               (case side1 => repeat (first | exact (C_below HR181_2.out HB.out) | (with_reducible refine C_alloc ?_ _) | (with_reducible refine C_drewN ?_ _) | (with_reducible refine C_drew ?_)))
               (case side2 => exact HC181_2.out)
               rintro e w14 ⟨v186, v189, v192, rfl, ho0, ho1, ho2, hb⟩
               refine ⟨_, rfl, ?_⟩
               have n0_ := Am (N_mono (N_told (N_told (N_told (N_old (by (with_reducible repeat (first | apply N_alloc | apply N_drewN | apply N_drew)); exact HO_8.out) hb) (N_base ho0)) (R_base ho1)) (N_base ho2)) (fun _ h_ => h_.1))
               have n1_ := Am (N_mono (N_told (N_told (N_told (N_old (by (with_reducible repeat (first | apply N_alloc | apply N_drewN | apply N_drew)); exact HO_9.out) hb) (N_base ho0)) (R_base ho1)) (N_base ho2)) (fun _ h_ => h_.1))
               have n2_ := Am (N_lower (N_mono (ok' := fun k_ => some k_ ≠ (v189 : Value).ownBlock ∧ some k_ ≠ (v192 : Value).ownBlock ∧ some k_ ≠ (u8 : Value).ownBlock ∧ some k_ ≠ (u9 : Value).ownBlock ∧ k_ ≠ gb195) ho0 (fun k_ hk_ => ⟨hk_.2.1, hk_.2.2, (Kd.fresh' (N_lt (by (with_reducible repeat (first | apply N_alloc | apply N_drewN | apply N_drew)); exact HO_8.out)) k_ hk_.1), (Kd.fresh' (N_lt (by (with_reducible repeat (first | apply N_alloc | apply N_drewN | apply N_drew)); exact HO_9.out)) k_ hk_.1), (Kd.freshB (g := gb195) (o := .cells #[.slice none 0 0, .slice none 0 0] 31 (0, 0)) (by (with_reducible repeat (first | refine blk_drewN ?_ _ | refine blk_drew ?_ | refine blk_alloc ?_ _)); exact BK195.out) k_ hk_.1)⟩)) (below_size (by repeat (first | (with_reducible first | exact HB.out | apply below_alloc | apply pw_below_drewN | apply below_drew1 | refine below_set ?_ GE195.out) | exact HB.out))))
               have n3_ := Am (R_lower (R_mono (ok' := fun k_ => True) ho1 (fun _ hk_ => trivial)) (below_size (by repeat (first | (with_reducible first | exact HB.out | apply below_alloc | apply pw_below_drewN | apply below_drew1 | refine below_set ?_ GE195.out) | exact HB.out))))
               have n4_ := Am (N_lower (N_mono (ok' := fun k_ => some k_ ≠ (v186 : Value).ownBlock ∧ some k_ ≠ (v189 : Value).ownBlock ∧ some k_ ≠ (u8 : Value).ownBlock ∧ some k_ ≠ (u9 : Value).ownBlock ∧ k_ ≠ gb195) ho2 (fun k_ hk_ => ⟨hk_.2.1, hk_.2.2, (Kd.fresh' (N_lt (by (with_reducible repeat (first | apply N_alloc | apply N_drewN | apply N_drew)); exact HO_8.out)) k_ hk_.1), (Kd.fresh' (N_lt (by (with_reducible repeat (first | apply N_alloc | apply N_drewN | apply N_drew)); exact HO_9.out)) k_ hk_.1), (Kd.freshB (g := gb195) (o := .cells #[.slice none 0 0, .slice none 0 0] 31 (0, 0)) (by (with_reducible repeat (first | refine blk_drewN ?_ _ | refine blk_drew ?_ | refine blk_alloc ?_ _)); exact BK195.out) k_ hk_.1)⟩)) (below_size (by repeat (first | (with_reducible first | exact HB.out | apply below_alloc | apply pw_below_drewN | apply below_drew1 | refine below_set ?_ GE195.out) | exact HB.out))))
               have n5_ := Am (blk_below (g := gb195) (o := .cells #[.slice none 0 0, .slice none 0 0] 31 (0, 0)) (by (with_reducible repeat (first | refine blk_drewN ?_ _ | refine blk_drew ?_ | refine blk_alloc ?_ _)); exact BK195.out) hb)
               have n6_ := Am (below_step (by repeat (first | (with_reducible first | exact HB.out | apply below_alloc | apply pw_below_drewN | apply below_drew1 | refine below_set ?_ GE195.out) | exact HB.out)) hb)
               clear HO_8
               clear HO_9
               clear BK195
               clear HB
               have HO_8 := n0_
               have HO_9 := n1_
               have HO187 := n2_
               have HO190 := n3_
               have HO193 := n4_
               have BK195 := n5_
               have HB := n6_
               clear n0_ n1_ n2_ n3_ n4_ n5_ n6_
               (try clear hb)
               (try clear hb2)
               (try clear hk)
               (try clear hi)
               (try clear ho0)
               (try clear ho1)
               (try clear ho2)
               refine hK.out _ _ ⟨((HB.out.cell (World.block_lt_of_cell? w _ hw179_0)).trans hw179_0), ((HB.out.cell (World.block_lt_of_cell? w _ hw179_1)).trans hw179_1), ((HB.out.cell (World.block_lt_of_cell? w _ hw179_2)).trans hw179_2), ((HB.out.cell (World.block_lt_of_cell? w _ hw179_3)).trans hw179_3), ((HB.out.cell (World.block_lt_of_cell? w _ hw179_4)).trans hw179_4), ((HB.out.cell (World.block_lt_of_cell? w _ hw180_0)).trans hw180_0), ((HB.out.cell (World.block_lt_of_cell? w _ hw180_1)).trans hw180_1), ((HB.out.cell (World.block_lt_of_cell? w _ hw180_2)).trans hw180_2), ((HB.out.cell (World.block_lt_of_cell? w _ hw180_3)).trans hw180_3), ((HB.out.cell (World.block_lt_of_cell? w _ hw180_4)).trans hw180_4), ((HB.out.cell (World.block_lt_of_cell? w _ hw181_0)).trans hw181_0), ((HB.out.cell (World.block_lt_of_cell? w _ hw181_1)).trans hw181_1), ((HB.out.cell (World.block_lt_of_cell? w _ hw181_2)).trans hw181_2), ((HB.out.cell (World.block_lt_of_cell? w _ hw181_3)).trans hw181_3), ((HB.out.cell (World.block_lt_of_cell? w _ hw181_4)).trans hw181_4)⟩ (fun hHeld => ?_)
               clear hK K
               refine norm_ (a' := ?_) ?_ ?_
               rotate_left
               ·
                show Act.put _ (some 54) _ = _
                simp only [Act.put, List.setIfInBounds_toArray, List.set_cons_zero, List.set_cons_succ, i64_w, i32_w]
                rfl
               refine pure_ (i := 16) (N := some 38) (v := ?_) (a' := ?_) #[true, true, true, true, true, true, true, true, true, true, true, true, true, true, true, true, true, false, false, false, true, false, false] rfl rfl (any_of HT_.out (by kernel_rfl)) (fun _ _ _ h => h) (Or.inl ⟨by rfl, ?_⟩) ?_ ?_
               rotate_left
               ·
                intro w'
                go_simp
                with_reducible rfl
               rotate_left
               ·
                simp only [Act.put, List.setIfInBounds_toArray, List.set_cons_zero, List.set_cons_succ, i64_w, i32_w]
                rfl
               refine pure_ (i := 17) (N := some 55) (v := ?_) (a' := ?_) #[true, true, true, true, true, true, true, true, true, true, true, true, true, true, true, true, true, true, false, false, true, false, false] rfl rfl (any_of HT_.out (by kernel_rfl)) (fun _ _ _ h => h) (Or.inl ⟨by rfl, ?_⟩) ?_ ?_
               rotate_left
               ·
                intro w'
                go_simp
                with_reducible rfl
               rotate_left
               ·
                simp only [Act.put, List.setIfInBounds_toArray, List.set_cons_zero, List.set_cons_succ, i64_w, i32_w]
                rfl
               refine pure_ (i := 18) (N := some 56) (v := ?_) (a' := ?_) #[true, true, true, true, true, true, true, true, true, true, true, true, true, true, true, true, true, true, true, false, true, false, false] rfl rfl (any_of HT_.out (by kernel_rfl)) (fun _ _ _ h => h) (Or.inl ⟨by rfl, ?_⟩) ?_ ?_
               rotate_left
               ·
                intro w'
                go_simp
                with_reducible rfl
               rotate_left
               ·
                simp only [Act.put, List.setIfInBounds_toArray, List.set_cons_zero, List.set_cons_succ, i64_w, i32_w]
                rfl
               exact norm_ (by first | (simp only [putAll, Act.put, List.setIfInBounds_toArray, List.set_cons_zero, List.set_cons_succ]; done) | (simp only [putAll, Act.put, List.setIfInBounds_toArray, List.set_cons_zero, List.set_cons_succ]; rfl)) (hJ15_20 (v186, v189, v192, gb195) _ ⟨hHeld, (by (with_reducible repeat (first | apply N_alloc | apply N_drewN | apply N_drew)); exact HO187.out), (by (with_reducible repeat (first | apply R_alloc | apply R_drewN | apply R_drew)); exact HO190.out), (by (with_reducible repeat (first | apply N_alloc | apply N_drewN | apply N_drew)); exact HO193.out), (by (with_reducible repeat (first | apply N_alloc | apply N_drewN | apply N_drew)); exact N_mono HO_8.out (fun _ hk => ⟨hk.1.1.2, ⟨hk.1.2, ⟨hk.2, ⟨hk.1.1.1.1, hk.1.1.1.2⟩⟩⟩⟩)), (by (with_reducible repeat (first | apply N_alloc | apply N_drewN | apply N_drew)); exact N_mono HO_9.out (fun _ hk => ⟨hk.1.1.2, ⟨hk.1.2, ⟨hk.2, ⟨hk.1.1.1.1, hk.1.1.1.2⟩⟩⟩⟩)), (by (with_reducible repeat (first | refine blk_drewN ?_ _ | refine blk_drew ?_ | refine blk_alloc ?_ _)); exact BK195.out), GW195.out, GE195.out, (by repeat (first | (with_reducible first | exact HB.out | apply below_alloc | apply pw_below_drewN | apply below_drew1 | refine below_set ?_ GE195.out) | exact HB.out))⟩)
              ·
               skip
               refine box_step ?hg (N := 11) ?hd (cs := #[.int .i64 0, .int .i64 0, .int .i64 0, .slice none 0 0]) (t := 28) ?hr ?_; (case hd => rfl); (case hg => rfl); (case hr => first | (go_simp; done) | (go_simp; rfl))
               intro gb194 hg w14 hbox hb
               have n0_ := Am (N_below (N_elderB (by (with_reducible repeat (first | apply N_alloc | apply N_drewN | apply N_drew)); exact HO_8.out) gb194 (Nat.le_of_eq hg.symm)) hb)
               have n1_ := Am (N_below (N_elderB (by (with_reducible repeat (first | apply N_alloc | apply N_drewN | apply N_drew)); exact HO_9.out) gb194 (Nat.le_of_eq hg.symm)) hb)
               have n2_ := Am (blk_below (g := gb195) (o := .cells #[.slice none 0 0, .slice none 0 0] 31 (0, 0)) (by (with_reducible repeat (first | refine blk_drewN ?_ _ | refine blk_drew ?_ | refine blk_alloc ?_ _)); exact BK195.out) hb)
               have n3_ := Am (below_step (by repeat (first | (with_reducible first | exact HB.out | apply below_alloc | apply pw_below_drewN | apply below_drew1 | refine below_set ?_ GE195.out) | exact HB.out)) hb)
               have n4_ := Am (hbox)
               have n5_ := Am ((by rw [hg]; exact (below_size (by repeat (first | (with_reducible first | exact HB.out | apply below_alloc | apply pw_below_drewN | apply below_drew1 | refine below_set ?_ GE195.out) | exact HB.out))) : w.heap.size ≤ gb194))
               have n6_ := Am ((by rw [hg]; exact (below_size (by repeat (first | (with_reducible first | exact HB.out | apply below_alloc | apply pw_below_drewN | apply below_drew1 | refine below_set ?_ GE195.out) | exact HB.out))) : w.heap.size ≤ gb194))
               have n7_ := Am ((by rw [hg]; exact Nat.ne_of_lt (blk_lt (g := gb195) (o := .cells #[.slice none 0 0, .slice none 0 0] 31 (0, 0)) (by (with_reducible repeat (first | refine blk_drewN ?_ _ | refine blk_drew ?_ | refine blk_alloc ?_ _)); exact BK195.out)) : gb195 ≠ gb194))
               have n8_ := Am ((by rw [hg]; exact Nat.ne_of_gt (blk_lt (g := gb195) (o := .cells #[.slice none 0 0, .slice none 0 0] 31 (0, 0)) (by (with_reducible repeat (first | refine blk_drewN ?_ _ | refine blk_drew ?_ | refine blk_alloc ?_ _)); exact BK195.out)) : gb194 ≠ gb195))
               clear HO_8
               clear HO_9
               clear BK195
               clear HB
               have HO_8 := n0_
               have HO_9 := n1_
               have BK195 := n2_
               have HB := n3_
               have BK194 := n4_
               have GW194 := n5_
               have GE194 := n6_
               have NB195_194 := n7_
               have NB194_195 := n8_
               clear n0_ n1_ n2_ n3_ n4_ n5_ n6_ n7_ n8_
               clear hb hbox hg
               refine hK.out _ _ ⟨((HB.out.cell (World.block_lt_of_cell? w _ hw179_0)).trans hw179_0), ((HB.out.cell (World.block_lt_of_cell? w _ hw179_1)).trans hw179_1), ((HB.out.cell (World.block_lt_of_cell? w _ hw179_2)).trans hw179_2), ((HB.out.cell (World.block_lt_of_cell? w _ hw179_3)).trans hw179_3), ((HB.out.cell (World.block_lt_of_cell? w _ hw179_4)).trans hw179_4), ((HB.out.cell (World.block_lt_of_cell? w _ hw180_0)).trans hw180_0), ((HB.out.cell (World.block_lt_of_cell? w _ hw180_1)).trans hw180_1), ((HB.out.cell (World.block_lt_of_cell? w _ hw180_2)).trans hw180_2), ((HB.out.cell (World.block_lt_of_cell? w _ hw180_3)).trans hw180_3), ((HB.out.cell (World.block_lt_of_cell? w _ hw180_4)).trans hw180_4), ((HB.out.cell (World.block_lt_of_cell? w _ hw181_0)).trans hw181_0), ((HB.out.cell (World.block_lt_of_cell? w _ hw181_1)).trans hw181_1), ((HB.out.cell (World.block_lt_of_cell? w _ hw181_2)).trans hw181_2), ((HB.out.cell (World.block_lt_of_cell? w _ hw181_3)).trans hw181_3), ((HB.out.cell (World.block_lt_of_cell? w _ hw181_4)).trans hw181_4)⟩ (fun hHeld => ?_)
               clear hK K
               refine norm_ (a' := ?_) ?_ ?_
               rotate_left
               ·
                show Act.put _ (some 11) _ = _
                simp only [Act.put, List.setIfInBounds_toArray, List.set_cons_zero, List.set_cons_succ, i64_w, i32_w]
                rfl
               exact norm_ (by first | (simp only [putAll, Act.put, List.setIfInBounds_toArray, List.set_cons_zero, List.set_cons_succ]; done) | (simp only [putAll, Act.put, List.setIfInBounds_toArray, List.set_cons_zero, List.set_cons_succ]; rfl)) (hJ19_20 (gb194, gb195) _ ⟨hHeld, (by (with_reducible repeat (first | apply N_alloc | apply N_drewN | apply N_drew)); exact N_mono HO_8.out (fun _ hk => ⟨hk.1.1, ⟨hk.2, hk.1.2⟩⟩)), (by (with_reducible repeat (first | apply N_alloc | apply N_drewN | apply N_drew)); exact N_mono HO_9.out (fun _ hk => ⟨hk.1.1, ⟨hk.2, hk.1.2⟩⟩)), (by (with_reducible repeat (first | refine blk_drewN ?_ _ | refine blk_drew ?_ | refine blk_alloc ?_ _)); exact BK194.out), (by (with_reducible repeat (first | refine blk_drewN ?_ _ | refine blk_drew ?_ | refine blk_alloc ?_ _)); exact BK195.out), GW194.out, GE194.out, NB195_194.out, NB194_195.out, GW195.out, GE195.out, (by repeat (first | (with_reducible first | exact HB.out | apply below_alloc | apply pw_below_drewN | apply below_drew1 | refine below_set ?_ GE195.out | refine below_set ?_ GE194.out) | exact HB.out))⟩)
            ·
             skip
             rintro gb194 w13 ⟨hS_, h0_, h1_, h2_, h3_, h4_, h5_⟩
             have n0_ : Aside0 (Kd.N k28 28 w13 w.heap.size (fun k_ => some k_ ≠ (u9 : Value).ownBlock ∧ k_ ≠ gb194) u8 x8_1) := ⟨h0_⟩
             have n1_ : Aside0 (Kd.N k31 31 w13 w.heap.size (fun k_ => some k_ ≠ (u8 : Value).ownBlock ∧ k_ ≠ gb194) u9 x9_1) := ⟨h1_⟩
             have n2_ : Aside0 (w13.heap[gb194]? = some (.cells #[.int .i64 0, .int .i64 0, .int .i64 0, .slice none 0 0] 28 (0, 0))) := ⟨h2_⟩
             have n3_ : Aside0 (w.heap.size ≤ gb194) := ⟨h3_⟩
             have n4_ : Aside0 (w.heap.size ≤ gb194) := ⟨h4_⟩
             have n5_ : Aside0 (Below w.heap.size w w13) := ⟨h5_⟩
             clear HO_8
             clear HO_9
             clear HB
             clear h0_ h1_ h2_ h3_ h4_ h5_
             have HO_8 := n0_
             have HO_9 := n1_
             have BK194 := n2_
             have GW194 := n3_
             have GE194 := n4_
             have HB := n5_
             clear n0_ n1_ n2_ n3_ n4_ n5_
             have hHeld : w13.cell? (ad179.add ((x10_1).toNat * 5)) = some (.int .i64 ((rd_T24 l0 x10_1).f0)) ∧ w13.cell? ⟨(ad179.add ((x10_1).toNat * 5)).block, (ad179.add ((x10_1).toNat * 5)).off + 1, none⟩ = some (.int .i64 ((rd_T24 l0 x10_1).f1)) ∧ w13.cell? ⟨(ad179.add ((x10_1).toNat * 5)).block, (ad179.add ((x10_1).toNat * 5)).off + 2, none⟩ = some (.slice A179_2 ((rd_T24 l0 x10_1).f2).length c179_2) ∧ w13.cell? ⟨(ad179.add ((x10_1).toNat * 5)).block, (ad179.add ((x10_1).toNat * 5)).off + 3, none⟩ = some (.slice A179_3 ((rd_T24 l0 x10_1).f3).length c179_3) ∧ w13.cell? ⟨(ad179.add ((x10_1).toNat * 5)).block, (ad179.add ((x10_1).toNat * 5)).off + 4, none⟩ = some (.slice A179_4 ((rd_T24 l0 x10_1).f4).length c179_4) ∧ w13.cell? (ad179.add ((x10_1).toNat * 5)) = some (.int .i64 ((rd_T24 l0 x10_1).f0)) ∧ w13.cell? ⟨(ad179.add ((x10_1).toNat * 5)).block, (ad179.add ((x10_1).toNat * 5)).off + 1, none⟩ = some (.int .i64 ((rd_T24 l0 x10_1).f1)) ∧ w13.cell? ⟨(ad179.add ((x10_1).toNat * 5)).block, (ad179.add ((x10_1).toNat * 5)).off + 2, none⟩ = some (.slice A179_2 ((rd_T24 l0 x10_1).f2).length c179_2) ∧ w13.cell? ⟨(ad179.add ((x10_1).toNat * 5)).block, (ad179.add ((x10_1).toNat * 5)).off + 3, none⟩ = some (.slice A179_3 ((rd_T24 l0 x10_1).f3).length c179_3) ∧ w13.cell? ⟨(ad179.add ((x10_1).toNat * 5)).block, (ad179.add ((x10_1).toNat * 5)).off + 4, none⟩ = some (.slice A179_4 ((rd_T24 l0 x10_1).f4).length c179_4) ∧ w13.cell? (ad179.add ((x10_1).toNat * 5)) = some (.int .i64 ((rd_T24 l0 x10_1).f0)) ∧ w13.cell? ⟨(ad179.add ((x10_1).toNat * 5)).block, (ad179.add ((x10_1).toNat * 5)).off + 1, none⟩ = some (.int .i64 ((rd_T24 l0 x10_1).f1)) ∧ w13.cell? ⟨(ad179.add ((x10_1).toNat * 5)).block, (ad179.add ((x10_1).toNat * 5)).off + 2, none⟩ = some (.slice A179_2 ((rd_T24 l0 x10_1).f2).length c179_2) ∧ w13.cell? ⟨(ad179.add ((x10_1).toNat * 5)).block, (ad179.add ((x10_1).toNat * 5)).off + 3, none⟩ = some (.slice A179_3 ((rd_T24 l0 x10_1).f3).length c179_3) ∧ w13.cell? ⟨(ad179.add ((x10_1).toNat * 5)).block, (ad179.add ((x10_1).toNat * 5)).off + 4, none⟩ = some (.slice A179_4 ((rd_T24 l0 x10_1).f4).length c179_4) := hS_
             refine norm_ (a' := ?_) ?_ ?_
             rotate_left
             ·
              simp only [putAll, Act.put, List.setIfInBounds_toArray, List.set_cons_zero, List.set_cons_succ]
              rfl
             refine two_ (i := 15) (j := 20) (Ni := some 54) (Nj := some 12) #[true, true, true, true, true, true, true, true, true, true, true, true, true, true, true, true, false, false, false, true, false, false, false] #[true, true, true, true, true, true, true, true, true, true, true, true, true, true, true, false, false, false, false, true, true, false, false] rfl rfl rfl rfl (two_of HT_.out (by kernel_rfl)) (by decide) (by decide) (fun K hK => ?_) (fun K hK => ?_)
             ·
              skip
              refine goes_ Try.func9 (by kernel_rfl) rfl #[.int .i64 ((rd_T24 l0 x10_1).f0), .int .i64 ((rd_T24 l0 x10_1).f1), .slice A179_2 ((rd_T24 l0 x10_1).f2).length c179_2] (by rfl) rfl rfl (by (try simp only [List.map_toArray, List.map_cons, List.map_nil]); first | done | rfl | (simp only [List.length_drop, List.length_take]; rfl)) ?_
              with_reducible refine (fuguelaw09_shaped.calls k1 ((rd_T24 l0 x10_1).f0) ((rd_T24 l0 x10_1).f1) _ _ ((rd_T24 l0 x10_1).f2) t182 t183 t184 t185 t188 t191 _ ?side1 ?side2 A8.out).mono ?_
              (case side1 => repeat (first | exact (C_below HR181_2.out HB.out) | (with_reducible refine C_alloc ?_ _) | (with_reducible refine C_drewN ?_ _) | (with_reducible refine C_drew ?_)))
              (case side2 => exact HC181_2.out)
              rintro e w14 ⟨v186, v189, v192, rfl, ho0, ho1, ho2, hb⟩
              refine ⟨_, rfl, ?_⟩
              have n0_ := Am (N_mono (N_told (N_told (N_told (N_old (by (with_reducible repeat (first | apply N_alloc | apply N_drewN | apply N_drew)); exact HO_8.out) hb) (N_base ho0)) (R_base ho1)) (N_base ho2)) (fun _ h_ => h_.1))
              have n1_ := Am (N_mono (N_told (N_told (N_told (N_old (by (with_reducible repeat (first | apply N_alloc | apply N_drewN | apply N_drew)); exact HO_9.out) hb) (N_base ho0)) (R_base ho1)) (N_base ho2)) (fun _ h_ => h_.1))
              have n2_ := Am (N_lower (N_mono (ok' := fun k_ => some k_ ≠ (v189 : Value).ownBlock ∧ some k_ ≠ (v192 : Value).ownBlock ∧ some k_ ≠ (u8 : Value).ownBlock ∧ some k_ ≠ (u9 : Value).ownBlock ∧ k_ ≠ gb194) ho0 (fun k_ hk_ => ⟨hk_.2.1, hk_.2.2, (Kd.fresh' (N_lt (by (with_reducible repeat (first | apply N_alloc | apply N_drewN | apply N_drew)); exact HO_8.out)) k_ hk_.1), (Kd.fresh' (N_lt (by (with_reducible repeat (first | apply N_alloc | apply N_drewN | apply N_drew)); exact HO_9.out)) k_ hk_.1), (Kd.freshB (g := gb194) (o := .cells #[.int .i64 0, .int .i64 0, .int .i64 0, .slice none 0 0] 28 (0, 0)) (by (with_reducible repeat (first | refine blk_drewN ?_ _ | refine blk_drew ?_ | refine blk_alloc ?_ _)); exact BK194.out) k_ hk_.1)⟩)) (below_size (by repeat (first | (with_reducible first | exact HB.out | apply below_alloc | apply pw_below_drewN | apply below_drew1 | refine below_set ?_ GE194.out) | exact HB.out))))
              have n3_ := Am (R_lower (R_mono (ok' := fun k_ => True) ho1 (fun _ hk_ => trivial)) (below_size (by repeat (first | (with_reducible first | exact HB.out | apply below_alloc | apply pw_below_drewN | apply below_drew1 | refine below_set ?_ GE194.out) | exact HB.out))))
              have n4_ := Am (N_lower (N_mono (ok' := fun k_ => some k_ ≠ (v186 : Value).ownBlock ∧ some k_ ≠ (v189 : Value).ownBlock ∧ some k_ ≠ (u8 : Value).ownBlock ∧ some k_ ≠ (u9 : Value).ownBlock ∧ k_ ≠ gb194) ho2 (fun k_ hk_ => ⟨hk_.2.1, hk_.2.2, (Kd.fresh' (N_lt (by (with_reducible repeat (first | apply N_alloc | apply N_drewN | apply N_drew)); exact HO_8.out)) k_ hk_.1), (Kd.fresh' (N_lt (by (with_reducible repeat (first | apply N_alloc | apply N_drewN | apply N_drew)); exact HO_9.out)) k_ hk_.1), (Kd.freshB (g := gb194) (o := .cells #[.int .i64 0, .int .i64 0, .int .i64 0, .slice none 0 0] 28 (0, 0)) (by (with_reducible repeat (first | refine blk_drewN ?_ _ | refine blk_drew ?_ | refine blk_alloc ?_ _)); exact BK194.out) k_ hk_.1)⟩)) (below_size (by repeat (first | (with_reducible first | exact HB.out | apply below_alloc | apply pw_below_drewN | apply below_drew1 | refine below_set ?_ GE194.out) | exact HB.out))))
              have n5_ := Am (blk_below (g := gb194) (o := .cells #[.int .i64 0, .int .i64 0, .int .i64 0, .slice none 0 0] 28 (0, 0)) (by (with_reducible repeat (first | refine blk_drewN ?_ _ | refine blk_drew ?_ | refine blk_alloc ?_ _)); exact BK194.out) hb)
              have n6_ := Am (below_step (by repeat (first | (with_reducible first | exact HB.out | apply below_alloc | apply pw_below_drewN | apply below_drew1 | refine below_set ?_ GE194.out) | exact HB.out)) hb)
              clear HO_8
              clear HO_9
              clear BK194
              clear HB
              have HO_8 := n0_
              have HO_9 := n1_
              have HO187 := n2_
              have HO190 := n3_
              have HO193 := n4_
              have BK194 := n5_
              have HB := n6_
              clear n0_ n1_ n2_ n3_ n4_ n5_ n6_
              (try clear hb)
              (try clear hb2)
              (try clear hk)
              (try clear hi)
              (try clear ho0)
              (try clear ho1)
              (try clear ho2)
              refine hK.out _ _ ⟨((HB.out.cell (World.block_lt_of_cell? w _ hw179_0)).trans hw179_0), ((HB.out.cell (World.block_lt_of_cell? w _ hw179_1)).trans hw179_1), ((HB.out.cell (World.block_lt_of_cell? w _ hw179_2)).trans hw179_2), ((HB.out.cell (World.block_lt_of_cell? w _ hw179_3)).trans hw179_3), ((HB.out.cell (World.block_lt_of_cell? w _ hw179_4)).trans hw179_4), ((HB.out.cell (World.block_lt_of_cell? w _ hw180_0)).trans hw180_0), ((HB.out.cell (World.block_lt_of_cell? w _ hw180_1)).trans hw180_1), ((HB.out.cell (World.block_lt_of_cell? w _ hw180_2)).trans hw180_2), ((HB.out.cell (World.block_lt_of_cell? w _ hw180_3)).trans hw180_3), ((HB.out.cell (World.block_lt_of_cell? w _ hw180_4)).trans hw180_4), ((HB.out.cell (World.block_lt_of_cell? w _ hw181_0)).trans hw181_0), ((HB.out.cell (World.block_lt_of_cell? w _ hw181_1)).trans hw181_1), ((HB.out.cell (World.block_lt_of_cell? w _ hw181_2)).trans hw181_2), ((HB.out.cell (World.block_lt_of_cell? w _ hw181_3)).trans hw181_3), ((HB.out.cell (World.block_lt_of_cell? w _ hw181_4)).trans hw181_4)⟩ (fun hHeld => ?_)
              clear hK K
              refine norm_ (a' := ?_) ?_ ?_
              rotate_left
              ·
               show Act.put _ (some 54) _ = _
               simp only [Act.put, List.setIfInBounds_toArray, List.set_cons_zero, List.set_cons_succ, i64_w, i32_w]
               rfl
              refine pure_ (i := 16) (N := some 38) (v := ?_) (a' := ?_) #[true, true, true, true, true, true, true, true, true, true, true, true, true, true, true, true, true, false, false, true, false, false, false] rfl rfl (any_of HT_.out (by kernel_rfl)) (fun _ _ _ h => h) (Or.inl ⟨by rfl, ?_⟩) ?_ ?_
              rotate_left
              ·
               intro w'
               go_simp
               with_reducible rfl
              rotate_left
              ·
               simp only [Act.put, List.setIfInBounds_toArray, List.set_cons_zero, List.set_cons_succ, i64_w, i32_w]
               rfl
              refine pure_ (i := 17) (N := some 55) (v := ?_) (a' := ?_) #[true, true, true, true, true, true, true, true, true, true, true, true, true, true, true, true, true, true, false, true, false, false, false] rfl rfl (any_of HT_.out (by kernel_rfl)) (fun _ _ _ h => h) (Or.inl ⟨by rfl, ?_⟩) ?_ ?_
              rotate_left
              ·
               intro w'
               go_simp
               with_reducible rfl
              rotate_left
              ·
               simp only [Act.put, List.setIfInBounds_toArray, List.set_cons_zero, List.set_cons_succ, i64_w, i32_w]
               rfl
              refine pure_ (i := 18) (N := some 56) (v := ?_) (a' := ?_) #[true, true, true, true, true, true, true, true, true, true, true, true, true, true, true, true, true, true, true, true, false, false, false] rfl rfl (any_of HT_.out (by kernel_rfl)) (fun _ _ _ h => h) (Or.inl ⟨by rfl, ?_⟩) ?_ ?_
              rotate_left
              ·
               intro w'
               go_simp
               with_reducible rfl
              rotate_left
              ·
               simp only [Act.put, List.setIfInBounds_toArray, List.set_cons_zero, List.set_cons_succ, i64_w, i32_w]
               rfl
              exact norm_ (by first | (simp only [putAll, Act.put, List.setIfInBounds_toArray, List.set_cons_zero, List.set_cons_succ]; done) | (simp only [putAll, Act.put, List.setIfInBounds_toArray, List.set_cons_zero, List.set_cons_succ]; rfl)) (hJ15_19 (v186, v189, v192, gb194) _ ⟨hHeld, (by (with_reducible repeat (first | apply N_alloc | apply N_drewN | apply N_drew)); exact HO187.out), (by (with_reducible repeat (first | apply R_alloc | apply R_drewN | apply R_drew)); exact HO190.out), (by (with_reducible repeat (first | apply N_alloc | apply N_drewN | apply N_drew)); exact HO193.out), (by (with_reducible repeat (first | apply N_alloc | apply N_drewN | apply N_drew)); exact N_mono HO_8.out (fun _ hk => ⟨hk.1.1.2, ⟨hk.1.2, ⟨hk.2, ⟨hk.1.1.1.1, hk.1.1.1.2⟩⟩⟩⟩)), (by (with_reducible repeat (first | apply N_alloc | apply N_drewN | apply N_drew)); exact N_mono HO_9.out (fun _ hk => ⟨hk.1.1.2, ⟨hk.1.2, ⟨hk.2, ⟨hk.1.1.1.1, hk.1.1.1.2⟩⟩⟩⟩)), (by (with_reducible repeat (first | refine blk_drewN ?_ _ | refine blk_drew ?_ | refine blk_alloc ?_ _)); exact BK194.out), GW194.out, GE194.out, (by repeat (first | (with_reducible first | exact HB.out | apply below_alloc | apply pw_below_drewN | apply below_drew1 | refine below_set ?_ GE194.out) | exact HB.out))⟩)
             ·
              skip
              refine box_step ?hg (N := 12) ?hd (cs := #[.slice none 0 0, .slice none 0 0]) (t := 31) ?hr ?_; (case hd => rfl); (case hg => rfl); (case hr => first | (go_simp; done) | (go_simp; rfl))
              intro gb195 hg w14 hbox hb
              have n0_ := Am (N_below (N_elderB (by (with_reducible repeat (first | apply N_alloc | apply N_drewN | apply N_drew)); exact HO_8.out) gb195 (Nat.le_of_eq hg.symm)) hb)
              have n1_ := Am (N_below (N_elderB (by (with_reducible repeat (first | apply N_alloc | apply N_drewN | apply N_drew)); exact HO_9.out) gb195 (Nat.le_of_eq hg.symm)) hb)
              have n2_ := Am (blk_below (g := gb194) (o := .cells #[.int .i64 0, .int .i64 0, .int .i64 0, .slice none 0 0] 28 (0, 0)) (by (with_reducible repeat (first | refine blk_drewN ?_ _ | refine blk_drew ?_ | refine blk_alloc ?_ _)); exact BK194.out) hb)
              have n3_ := Am (below_step (by repeat (first | (with_reducible first | exact HB.out | apply below_alloc | apply pw_below_drewN | apply below_drew1 | refine below_set ?_ GE194.out) | exact HB.out)) hb)
              have n4_ := Am (hbox)
              have n5_ := Am ((by rw [hg]; exact (below_size (by repeat (first | (with_reducible first | exact HB.out | apply below_alloc | apply pw_below_drewN | apply below_drew1 | refine below_set ?_ GE194.out) | exact HB.out))) : w.heap.size ≤ gb195))
              have n6_ := Am ((by rw [hg]; exact (below_size (by repeat (first | (with_reducible first | exact HB.out | apply below_alloc | apply pw_below_drewN | apply below_drew1 | refine below_set ?_ GE194.out) | exact HB.out))) : w.heap.size ≤ gb195))
              have n7_ := Am ((by rw [hg]; exact Nat.ne_of_lt (blk_lt (g := gb194) (o := .cells #[.int .i64 0, .int .i64 0, .int .i64 0, .slice none 0 0] 28 (0, 0)) (by (with_reducible repeat (first | refine blk_drewN ?_ _ | refine blk_drew ?_ | refine blk_alloc ?_ _)); exact BK194.out)) : gb194 ≠ gb195))
              have n8_ := Am ((by rw [hg]; exact Nat.ne_of_gt (blk_lt (g := gb194) (o := .cells #[.int .i64 0, .int .i64 0, .int .i64 0, .slice none 0 0] 28 (0, 0)) (by (with_reducible repeat (first | refine blk_drewN ?_ _ | refine blk_drew ?_ | refine blk_alloc ?_ _)); exact BK194.out)) : gb195 ≠ gb194))
              clear HO_8
              clear HO_9
              clear BK194
              clear HB
              have HO_8 := n0_
              have HO_9 := n1_
              have BK194 := n2_
              have HB := n3_
              have BK195 := n4_
              have GW195 := n5_
              have GE195 := n6_
              have NB194_195 := n7_
              have NB195_194 := n8_
              clear n0_ n1_ n2_ n3_ n4_ n5_ n6_ n7_ n8_
              clear hb hbox hg
              refine hK.out _ _ ⟨((HB.out.cell (World.block_lt_of_cell? w _ hw179_0)).trans hw179_0), ((HB.out.cell (World.block_lt_of_cell? w _ hw179_1)).trans hw179_1), ((HB.out.cell (World.block_lt_of_cell? w _ hw179_2)).trans hw179_2), ((HB.out.cell (World.block_lt_of_cell? w _ hw179_3)).trans hw179_3), ((HB.out.cell (World.block_lt_of_cell? w _ hw179_4)).trans hw179_4), ((HB.out.cell (World.block_lt_of_cell? w _ hw180_0)).trans hw180_0), ((HB.out.cell (World.block_lt_of_cell? w _ hw180_1)).trans hw180_1), ((HB.out.cell (World.block_lt_of_cell? w _ hw180_2)).trans hw180_2), ((HB.out.cell (World.block_lt_of_cell? w _ hw180_3)).trans hw180_3), ((HB.out.cell (World.block_lt_of_cell? w _ hw180_4)).trans hw180_4), ((HB.out.cell (World.block_lt_of_cell? w _ hw181_0)).trans hw181_0), ((HB.out.cell (World.block_lt_of_cell? w _ hw181_1)).trans hw181_1), ((HB.out.cell (World.block_lt_of_cell? w _ hw181_2)).trans hw181_2), ((HB.out.cell (World.block_lt_of_cell? w _ hw181_3)).trans hw181_3), ((HB.out.cell (World.block_lt_of_cell? w _ hw181_4)).trans hw181_4)⟩ (fun hHeld => ?_)
              clear hK K
              refine norm_ (a' := ?_) ?_ ?_
              rotate_left
              ·
               show Act.put _ (some 12) _ = _
               simp only [Act.put, List.setIfInBounds_toArray, List.set_cons_zero, List.set_cons_succ, i64_w, i32_w]
               rfl
              exact norm_ (by first | (simp only [putAll, Act.put, List.setIfInBounds_toArray, List.set_cons_zero, List.set_cons_succ]; done) | (simp only [putAll, Act.put, List.setIfInBounds_toArray, List.set_cons_zero, List.set_cons_succ]; rfl)) (hJ19_20 (gb194, gb195) _ ⟨hHeld, (by (with_reducible repeat (first | apply N_alloc | apply N_drewN | apply N_drew)); exact N_mono HO_8.out (fun _ hk => ⟨hk.1.1, ⟨hk.1.2, hk.2⟩⟩)), (by (with_reducible repeat (first | apply N_alloc | apply N_drewN | apply N_drew)); exact N_mono HO_9.out (fun _ hk => ⟨hk.1.1, ⟨hk.1.2, hk.2⟩⟩)), (by (with_reducible repeat (first | refine blk_drewN ?_ _ | refine blk_drew ?_ | refine blk_alloc ?_ _)); exact BK194.out), (by (with_reducible repeat (first | refine blk_drewN ?_ _ | refine blk_drew ?_ | refine blk_alloc ?_ _)); exact BK195.out), GW194.out, GE194.out, NB195_194.out, NB194_195.out, GW195.out, GE195.out, (by repeat (first | (with_reducible first | exact HB.out | apply below_alloc | apply pw_below_drewN | apply below_drew1 | refine below_set ?_ GE194.out | refine below_set ?_ GE195.out) | exact HB.out))⟩)
           ·
            skip
            rintro ⟨v186, v189, v192⟩ w13 ⟨hS_, h0_, h1_, h2_, h3_, h4_, h5_⟩
            have n0_ : Aside0 (Kd.N k102 102 w13 w.heap.size (fun k_ => some k_ ≠ (v189 : Value).ownBlock ∧ some k_ ≠ (v192 : Value).ownBlock ∧ some k_ ≠ (u8 : Value).ownBlock ∧ some k_ ≠ (u9 : Value).ownBlock) v186 t185) := ⟨h0_⟩
            have n1_ : Aside0 (Kd.R (Kd.int .i64) 3 w13 w.heap.size (fun _ => True) v189 t188) := ⟨h1_⟩
            have n2_ : Aside0 (Kd.N (Kd.slice 3 (Kd.int .i64)) 22 w13 w.heap.size (fun k_ => some k_ ≠ (v186 : Value).ownBlock ∧ some k_ ≠ (v189 : Value).ownBlock ∧ some k_ ≠ (u8 : Value).ownBlock ∧ some k_ ≠ (u9 : Value).ownBlock) v192 t191) := ⟨h2_⟩
            have n3_ : Aside0 (Kd.N k28 28 w13 w.heap.size (fun k_ => some k_ ≠ (v186 : Value).ownBlock ∧ some k_ ≠ (v189 : Value).ownBlock ∧ some k_ ≠ (v192 : Value).ownBlock ∧ some k_ ≠ (u9 : Value).ownBlock) u8 x8_1) := ⟨h3_⟩
            have n4_ : Aside0 (Kd.N k31 31 w13 w.heap.size (fun k_ => some k_ ≠ (v186 : Value).ownBlock ∧ some k_ ≠ (v189 : Value).ownBlock ∧ some k_ ≠ (v192 : Value).ownBlock ∧ some k_ ≠ (u8 : Value).ownBlock) u9 x9_1) := ⟨h4_⟩
            have n5_ : Aside0 (Below w.heap.size w w13) := ⟨h5_⟩
            clear HO_8
            clear HO_9
            clear HB
            clear h0_ h1_ h2_ h3_ h4_ h5_
            have HO187 := n0_
            have HO190 := n1_
            have HO193 := n2_
            have HO_8 := n3_
            have HO_9 := n4_
            have HB := n5_
            clear n0_ n1_ n2_ n3_ n4_ n5_
            have hHeld : w13.cell? (ad179.add ((x10_1).toNat * 5)) = some (.int .i64 ((rd_T24 l0 x10_1).f0)) ∧ w13.cell? ⟨(ad179.add ((x10_1).toNat * 5)).block, (ad179.add ((x10_1).toNat * 5)).off + 1, none⟩ = some (.int .i64 ((rd_T24 l0 x10_1).f1)) ∧ w13.cell? ⟨(ad179.add ((x10_1).toNat * 5)).block, (ad179.add ((x10_1).toNat * 5)).off + 2, none⟩ = some (.slice A179_2 ((rd_T24 l0 x10_1).f2).length c179_2) ∧ w13.cell? ⟨(ad179.add ((x10_1).toNat * 5)).block, (ad179.add ((x10_1).toNat * 5)).off + 3, none⟩ = some (.slice A179_3 ((rd_T24 l0 x10_1).f3).length c179_3) ∧ w13.cell? ⟨(ad179.add ((x10_1).toNat * 5)).block, (ad179.add ((x10_1).toNat * 5)).off + 4, none⟩ = some (.slice A179_4 ((rd_T24 l0 x10_1).f4).length c179_4) ∧ w13.cell? (ad179.add ((x10_1).toNat * 5)) = some (.int .i64 ((rd_T24 l0 x10_1).f0)) ∧ w13.cell? ⟨(ad179.add ((x10_1).toNat * 5)).block, (ad179.add ((x10_1).toNat * 5)).off + 1, none⟩ = some (.int .i64 ((rd_T24 l0 x10_1).f1)) ∧ w13.cell? ⟨(ad179.add ((x10_1).toNat * 5)).block, (ad179.add ((x10_1).toNat * 5)).off + 2, none⟩ = some (.slice A179_2 ((rd_T24 l0 x10_1).f2).length c179_2) ∧ w13.cell? ⟨(ad179.add ((x10_1).toNat * 5)).block, (ad179.add ((x10_1).toNat * 5)).off + 3, none⟩ = some (.slice A179_3 ((rd_T24 l0 x10_1).f3).length c179_3) ∧ w13.cell? ⟨(ad179.add ((x10_1).toNat * 5)).block, (ad179.add ((x10_1).toNat * 5)).off + 4, none⟩ = some (.slice A179_4 ((rd_T24 l0 x10_1).f4).length c179_4) ∧ w13.cell? (ad179.add ((x10_1).toNat * 5)) = some (.int .i64 ((rd_T24 l0 x10_1).f0)) ∧ w13.cell? ⟨(ad179.add ((x10_1).toNat * 5)).block, (ad179.add ((x10_1).toNat * 5)).off + 1, none⟩ = some (.int .i64 ((rd_T24 l0 x10_1).f1)) ∧ w13.cell? ⟨(ad179.add ((x10_1).toNat * 5)).block, (ad179.add ((x10_1).toNat * 5)).off + 2, none⟩ = some (.slice A179_2 ((rd_T24 l0 x10_1).f2).length c179_2) ∧ w13.cell? ⟨(ad179.add ((x10_1).toNat * 5)).block, (ad179.add ((x10_1).toNat * 5)).off + 3, none⟩ = some (.slice A179_3 ((rd_T24 l0 x10_1).f3).length c179_3) ∧ w13.cell? ⟨(ad179.add ((x10_1).toNat * 5)).block, (ad179.add ((x10_1).toNat * 5)).off + 4, none⟩ = some (.slice A179_4 ((rd_T24 l0 x10_1).f4).length c179_4) := hS_
            refine norm_ (a' := ?_) ?_ ?_
            rotate_left
            ·
             simp only [putAll, Act.put, List.setIfInBounds_toArray, List.set_cons_zero, List.set_cons_succ]
             rfl
            refine two_ (i := 19) (j := 20) (Ni := some 11) (Nj := some 12) #[true, true, true, true, true, true, true, true, true, true, true, true, true, true, true, true, true, true, true, true, false, false, false] #[true, true, true, true, true, true, true, true, true, true, true, true, true, true, true, true, true, true, true, false, true, false, false] rfl rfl rfl rfl (two_of HT_.out (by kernel_rfl)) (by decide) (by decide) (fun K hK => ?_) (fun K hK => ?_)
            ·
             skip
             refine box_step ?hg (N := 11) ?hd (cs := #[.int .i64 0, .int .i64 0, .int .i64 0, .slice none 0 0]) (t := 28) ?hr ?_; (case hd => rfl); (case hg => rfl); (case hr => first | (go_simp; done) | (go_simp; rfl))
             intro gb194 hg w14 hbox hb
             have n0_ := Am (N_below (N_elderB (by (with_reducible repeat (first | apply N_alloc | apply N_drewN | apply N_drew)); exact HO_8.out) gb194 (Nat.le_of_eq hg.symm)) hb)
             have n1_ := Am (N_below (N_elderB (by (with_reducible repeat (first | apply N_alloc | apply N_drewN | apply N_drew)); exact HO_9.out) gb194 (Nat.le_of_eq hg.symm)) hb)
             have n2_ := Am (N_below (N_elderB (by (with_reducible repeat (first | apply N_alloc | apply N_drewN | apply N_drew)); exact HO187.out) gb194 (Nat.le_of_eq hg.symm)) hb)
             have n3_ := Am (R_below (by (with_reducible repeat (first | apply R_alloc | apply R_drewN | apply R_drew)); exact HO190.out) hb)
             have n4_ := Am (N_below (N_elderB (by (with_reducible repeat (first | apply N_alloc | apply N_drewN | apply N_drew)); exact HO193.out) gb194 (Nat.le_of_eq hg.symm)) hb)
             have n5_ := Am (below_step (by repeat (first | (with_reducible first | exact HB.out | apply below_alloc | apply pw_below_drewN | apply below_drew1) | exact HB.out)) hb)
             have n6_ := Am (hbox)
             have n7_ := Am ((by rw [hg]; exact (below_size (by repeat (first | (with_reducible first | exact HB.out | apply below_alloc | apply pw_below_drewN | apply below_drew1) | exact HB.out))) : w.heap.size ≤ gb194))
             have n8_ := Am ((by rw [hg]; exact (below_size (by repeat (first | (with_reducible first | exact HB.out | apply below_alloc | apply pw_below_drewN | apply below_drew1) | exact HB.out))) : w.heap.size ≤ gb194))
             clear HO_8
             clear HO_9
             clear HO187
             clear HO190
             clear HO193
             clear HB
             have HO_8 := n0_
             have HO_9 := n1_
             have HO187 := n2_
             have HO190 := n3_
             have HO193 := n4_
             have HB := n5_
             have BK194 := n6_
             have GW194 := n7_
             have GE194 := n8_
             clear n0_ n1_ n2_ n3_ n4_ n5_ n6_ n7_ n8_
             clear hb hbox hg
             refine hK.out _ _ ⟨((HB.out.cell (World.block_lt_of_cell? w _ hw179_0)).trans hw179_0), ((HB.out.cell (World.block_lt_of_cell? w _ hw179_1)).trans hw179_1), ((HB.out.cell (World.block_lt_of_cell? w _ hw179_2)).trans hw179_2), ((HB.out.cell (World.block_lt_of_cell? w _ hw179_3)).trans hw179_3), ((HB.out.cell (World.block_lt_of_cell? w _ hw179_4)).trans hw179_4), ((HB.out.cell (World.block_lt_of_cell? w _ hw180_0)).trans hw180_0), ((HB.out.cell (World.block_lt_of_cell? w _ hw180_1)).trans hw180_1), ((HB.out.cell (World.block_lt_of_cell? w _ hw180_2)).trans hw180_2), ((HB.out.cell (World.block_lt_of_cell? w _ hw180_3)).trans hw180_3), ((HB.out.cell (World.block_lt_of_cell? w _ hw180_4)).trans hw180_4), ((HB.out.cell (World.block_lt_of_cell? w _ hw181_0)).trans hw181_0), ((HB.out.cell (World.block_lt_of_cell? w _ hw181_1)).trans hw181_1), ((HB.out.cell (World.block_lt_of_cell? w _ hw181_2)).trans hw181_2), ((HB.out.cell (World.block_lt_of_cell? w _ hw181_3)).trans hw181_3), ((HB.out.cell (World.block_lt_of_cell? w _ hw181_4)).trans hw181_4)⟩ (fun hHeld => ?_)
             clear hK K
             refine norm_ (a' := ?_) ?_ ?_
             rotate_left
             ·
              show Act.put _ (some 11) _ = _
              simp only [Act.put, List.setIfInBounds_toArray, List.set_cons_zero, List.set_cons_succ, i64_w, i32_w]
              rfl
             exact norm_ (by first | (simp only [putAll, Act.put, List.setIfInBounds_toArray, List.set_cons_zero, List.set_cons_succ]; done) | (simp only [putAll, Act.put, List.setIfInBounds_toArray, List.set_cons_zero, List.set_cons_succ]; rfl)) (hJ15_19 (v186, v189, v192, gb194) _ ⟨hHeld, (by (with_reducible repeat (first | apply N_alloc | apply N_drewN | apply N_drew)); exact N_mono HO187.out (fun _ hk => ⟨hk.1.1, ⟨hk.1.2.1, ⟨hk.1.2.2.1, ⟨hk.1.2.2.2, hk.2⟩⟩⟩⟩)), (by (with_reducible repeat (first | apply R_alloc | apply R_drewN | apply R_drew)); exact HO190.out), (by (with_reducible repeat (first | apply N_alloc | apply N_drewN | apply N_drew)); exact N_mono HO193.out (fun _ hk => ⟨hk.1.1, ⟨hk.1.2.1, ⟨hk.1.2.2.1, ⟨hk.1.2.2.2, hk.2⟩⟩⟩⟩)), (by (with_reducible repeat (first | apply N_alloc | apply N_drewN | apply N_drew)); exact N_mono HO_8.out (fun _ hk => ⟨hk.1.1, ⟨hk.1.2.1, ⟨hk.1.2.2.1, ⟨hk.1.2.2.2, hk.2⟩⟩⟩⟩)), (by (with_reducible repeat (first | apply N_alloc | apply N_drewN | apply N_drew)); exact N_mono HO_9.out (fun _ hk => ⟨hk.1.1, ⟨hk.1.2.1, ⟨hk.1.2.2.1, ⟨hk.1.2.2.2, hk.2⟩⟩⟩⟩)), (by (with_reducible repeat (first | refine blk_drewN ?_ _ | refine blk_drew ?_ | refine blk_alloc ?_ _)); exact BK194.out), GW194.out, GE194.out, (by repeat (first | (with_reducible first | exact HB.out | apply below_alloc | apply pw_below_drewN | apply below_drew1 | refine below_set ?_ GE194.out) | exact HB.out))⟩)
            ·
             skip
             refine box_step ?hg (N := 12) ?hd (cs := #[.slice none 0 0, .slice none 0 0]) (t := 31) ?hr ?_; (case hd => rfl); (case hg => rfl); (case hr => first | (go_simp; done) | (go_simp; rfl))
             intro gb195 hg w14 hbox hb
             have n0_ := Am (N_below (N_elderB (by (with_reducible repeat (first | apply N_alloc | apply N_drewN | apply N_drew)); exact HO_8.out) gb195 (Nat.le_of_eq hg.symm)) hb)
             have n1_ := Am (N_below (N_elderB (by (with_reducible repeat (first | apply N_alloc | apply N_drewN | apply N_drew)); exact HO_9.out) gb195 (Nat.le_of_eq hg.symm)) hb)
             have n2_ := Am (N_below (N_elderB (by (with_reducible repeat (first | apply N_alloc | apply N_drewN | apply N_drew)); exact HO187.out) gb195 (Nat.le_of_eq hg.symm)) hb)
             have n3_ := Am (R_below (by (with_reducible repeat (first | apply R_alloc | apply R_drewN | apply R_drew)); exact HO190.out) hb)
             have n4_ := Am (N_below (N_elderB (by (with_reducible repeat (first | apply N_alloc | apply N_drewN | apply N_drew)); exact HO193.out) gb195 (Nat.le_of_eq hg.symm)) hb)
             have n5_ := Am (below_step (by repeat (first | (with_reducible first | exact HB.out | apply below_alloc | apply pw_below_drewN | apply below_drew1) | exact HB.out)) hb)
             have n6_ := Am (hbox)
             have n7_ := Am ((by rw [hg]; exact (below_size (by repeat (first | (with_reducible first | exact HB.out | apply below_alloc | apply pw_below_drewN | apply below_drew1) | exact HB.out))) : w.heap.size ≤ gb195))
             have n8_ := Am ((by rw [hg]; exact (below_size (by repeat (first | (with_reducible first | exact HB.out | apply below_alloc | apply pw_below_drewN | apply below_drew1) | exact HB.out))) : w.heap.size ≤ gb195))
             clear HO_8
             clear HO_9
             clear HO187
             clear HO190
             clear HO193
             clear HB
             have HO_8 := n0_
             have HO_9 := n1_
             have HO187 := n2_
             have HO190 := n3_
             have HO193 := n4_
             have HB := n5_
             have BK195 := n6_
             have GW195 := n7_
             have GE195 := n8_
             clear n0_ n1_ n2_ n3_ n4_ n5_ n6_ n7_ n8_
             clear hb hbox hg
             refine hK.out _ _ ⟨((HB.out.cell (World.block_lt_of_cell? w _ hw179_0)).trans hw179_0), ((HB.out.cell (World.block_lt_of_cell? w _ hw179_1)).trans hw179_1), ((HB.out.cell (World.block_lt_of_cell? w _ hw179_2)).trans hw179_2), ((HB.out.cell (World.block_lt_of_cell? w _ hw179_3)).trans hw179_3), ((HB.out.cell (World.block_lt_of_cell? w _ hw179_4)).trans hw179_4), ((HB.out.cell (World.block_lt_of_cell? w _ hw180_0)).trans hw180_0), ((HB.out.cell (World.block_lt_of_cell? w _ hw180_1)).trans hw180_1), ((HB.out.cell (World.block_lt_of_cell? w _ hw180_2)).trans hw180_2), ((HB.out.cell (World.block_lt_of_cell? w _ hw180_3)).trans hw180_3), ((HB.out.cell (World.block_lt_of_cell? w _ hw180_4)).trans hw180_4), ((HB.out.cell (World.block_lt_of_cell? w _ hw181_0)).trans hw181_0), ((HB.out.cell (World.block_lt_of_cell? w _ hw181_1)).trans hw181_1), ((HB.out.cell (World.block_lt_of_cell? w _ hw181_2)).trans hw181_2), ((HB.out.cell (World.block_lt_of_cell? w _ hw181_3)).trans hw181_3), ((HB.out.cell (World.block_lt_of_cell? w _ hw181_4)).trans hw181_4)⟩ (fun hHeld => ?_)
             clear hK K
             refine norm_ (a' := ?_) ?_ ?_
             rotate_left
             ·
              show Act.put _ (some 12) _ = _
              simp only [Act.put, List.setIfInBounds_toArray, List.set_cons_zero, List.set_cons_succ, i64_w, i32_w]
              rfl
             exact norm_ (by first | (simp only [putAll, Act.put, List.setIfInBounds_toArray, List.set_cons_zero, List.set_cons_succ]; done) | (simp only [putAll, Act.put, List.setIfInBounds_toArray, List.set_cons_zero, List.set_cons_succ]; rfl)) (hJ15_20 (v186, v189, v192, gb195) _ ⟨hHeld, (by (with_reducible repeat (first | apply N_alloc | apply N_drewN | apply N_drew)); exact N_mono HO187.out (fun _ hk => ⟨hk.1.1, ⟨hk.1.2.1, ⟨hk.1.2.2.1, ⟨hk.1.2.2.2, hk.2⟩⟩⟩⟩)), (by (with_reducible repeat (first | apply R_alloc | apply R_drewN | apply R_drew)); exact HO190.out), (by (with_reducible repeat (first | apply N_alloc | apply N_drewN | apply N_drew)); exact N_mono HO193.out (fun _ hk => ⟨hk.1.1, ⟨hk.1.2.1, ⟨hk.1.2.2.1, ⟨hk.1.2.2.2, hk.2⟩⟩⟩⟩)), (by (with_reducible repeat (first | apply N_alloc | apply N_drewN | apply N_drew)); exact N_mono HO_8.out (fun _ hk => ⟨hk.1.1, ⟨hk.1.2.1, ⟨hk.1.2.2.1, ⟨hk.1.2.2.2, hk.2⟩⟩⟩⟩)), (by (with_reducible repeat (first | apply N_alloc | apply N_drewN | apply N_drew)); exact N_mono HO_9.out (fun _ hk => ⟨hk.1.1, ⟨hk.1.2.1, ⟨hk.1.2.2.1, ⟨hk.1.2.2.2, hk.2⟩⟩⟩⟩)), (by (with_reducible repeat (first | refine blk_drewN ?_ _ | refine blk_drew ?_ | refine blk_alloc ?_ _)); exact BK195.out), GW195.out, GE195.out, (by repeat (first | (with_reducible first | exact HB.out | apply below_alloc | apply pw_below_drewN | apply below_drew1 | refine below_set ?_ GE195.out) | exact HB.out))⟩)
          ·
           skip
           rintro ⟨gb194, gb195⟩ w14 ⟨hS_, h0_, h1_, h2_, h3_, h4_, h5_, h6_, h7_, h8_, h9_, h10_⟩
           have n0_ : Aside0 (Kd.N k28 28 w14 w.heap.size (fun k_ => some k_ ≠ (u9 : Value).ownBlock ∧ k_ ≠ gb194 ∧ k_ ≠ gb195) u8 x8_1) := ⟨h0_⟩
           have n1_ : Aside0 (Kd.N k31 31 w14 w.heap.size (fun k_ => some k_ ≠ (u8 : Value).ownBlock ∧ k_ ≠ gb194 ∧ k_ ≠ gb195) u9 x9_1) := ⟨h1_⟩
           have n2_ : Aside0 (w14.heap[gb194]? = some (.cells #[.int .i64 0, .int .i64 0, .int .i64 0, .slice none 0 0] 28 (0, 0))) := ⟨h2_⟩
           have n3_ : Aside0 (w14.heap[gb195]? = some (.cells #[.slice none 0 0, .slice none 0 0] 31 (0, 0))) := ⟨h3_⟩
           have n4_ : Aside0 (w.heap.size ≤ gb194) := ⟨h4_⟩
           have n5_ : Aside0 (w.heap.size ≤ gb194) := ⟨h5_⟩
           have n6_ : Aside0 (gb195 ≠ gb194) := ⟨h6_⟩
           have n7_ : Aside0 (gb194 ≠ gb195) := ⟨h7_⟩
           have n8_ : Aside0 (w.heap.size ≤ gb195) := ⟨h8_⟩
           have n9_ : Aside0 (w.heap.size ≤ gb195) := ⟨h9_⟩
           have n10_ : Aside0 (Below w.heap.size w w14) := ⟨h10_⟩
           clear HO_8
           clear HO_9
           clear HB
           clear h0_ h1_ h2_ h3_ h4_ h5_ h6_ h7_ h8_ h9_ h10_
           have HO_8 := n0_
           have HO_9 := n1_
           have BK194 := n2_
           have BK195 := n3_
           have GW194 := n4_
           have GE194 := n5_
           have NB195_194 := n6_
           have NB194_195 := n7_
           have GW195 := n8_
           have GE195 := n9_
           have HB := n10_
           clear n0_ n1_ n2_ n3_ n4_ n5_ n6_ n7_ n8_ n9_ n10_
           have hHeld : w14.cell? (ad179.add ((x10_1).toNat * 5)) = some (.int .i64 ((rd_T24 l0 x10_1).f0)) ∧ w14.cell? ⟨(ad179.add ((x10_1).toNat * 5)).block, (ad179.add ((x10_1).toNat * 5)).off + 1, none⟩ = some (.int .i64 ((rd_T24 l0 x10_1).f1)) ∧ w14.cell? ⟨(ad179.add ((x10_1).toNat * 5)).block, (ad179.add ((x10_1).toNat * 5)).off + 2, none⟩ = some (.slice A179_2 ((rd_T24 l0 x10_1).f2).length c179_2) ∧ w14.cell? ⟨(ad179.add ((x10_1).toNat * 5)).block, (ad179.add ((x10_1).toNat * 5)).off + 3, none⟩ = some (.slice A179_3 ((rd_T24 l0 x10_1).f3).length c179_3) ∧ w14.cell? ⟨(ad179.add ((x10_1).toNat * 5)).block, (ad179.add ((x10_1).toNat * 5)).off + 4, none⟩ = some (.slice A179_4 ((rd_T24 l0 x10_1).f4).length c179_4) ∧ w14.cell? (ad179.add ((x10_1).toNat * 5)) = some (.int .i64 ((rd_T24 l0 x10_1).f0)) ∧ w14.cell? ⟨(ad179.add ((x10_1).toNat * 5)).block, (ad179.add ((x10_1).toNat * 5)).off + 1, none⟩ = some (.int .i64 ((rd_T24 l0 x10_1).f1)) ∧ w14.cell? ⟨(ad179.add ((x10_1).toNat * 5)).block, (ad179.add ((x10_1).toNat * 5)).off + 2, none⟩ = some (.slice A179_2 ((rd_T24 l0 x10_1).f2).length c179_2) ∧ w14.cell? ⟨(ad179.add ((x10_1).toNat * 5)).block, (ad179.add ((x10_1).toNat * 5)).off + 3, none⟩ = some (.slice A179_3 ((rd_T24 l0 x10_1).f3).length c179_3) ∧ w14.cell? ⟨(ad179.add ((x10_1).toNat * 5)).block, (ad179.add ((x10_1).toNat * 5)).off + 4, none⟩ = some (.slice A179_4 ((rd_T24 l0 x10_1).f4).length c179_4) ∧ w14.cell? (ad179.add ((x10_1).toNat * 5)) = some (.int .i64 ((rd_T24 l0 x10_1).f0)) ∧ w14.cell? ⟨(ad179.add ((x10_1).toNat * 5)).block, (ad179.add ((x10_1).toNat * 5)).off + 1, none⟩ = some (.int .i64 ((rd_T24 l0 x10_1).f1)) ∧ w14.cell? ⟨(ad179.add ((x10_1).toNat * 5)).block, (ad179.add ((x10_1).toNat * 5)).off + 2, none⟩ = some (.slice A179_2 ((rd_T24 l0 x10_1).f2).length c179_2) ∧ w14.cell? ⟨(ad179.add ((x10_1).toNat * 5)).block, (ad179.add ((x10_1).toNat * 5)).off + 3, none⟩ = some (.slice A179_3 ((rd_T24 l0 x10_1).f3).length c179_3) ∧ w14.cell? ⟨(ad179.add ((x10_1).toNat * 5)).block, (ad179.add ((x10_1).toNat * 5)).off + 4, none⟩ = some (.slice A179_4 ((rd_T24 l0 x10_1).f4).length c179_4) := hS_
           refine norm_ (a' := ?_) ?_ ?_
           rotate_left
           ·
            simp only [putAll, Act.put, List.setIfInBounds_toArray, List.set_cons_zero, List.set_cons_succ]
            rfl
           refine one_ (i := 15) (N := some 54) #[true, true, true, true, true, true, true, true, true, true, true, true, true, true, true, true, false, false, false, true, true, false, false] rfl rfl (one_of HT_.out (by kernel_rfl)) (by decide) (fun K hK => ?_)
           refine goes_ Try.func9 (by kernel_rfl) rfl #[.int .i64 ((rd_T24 l0 x10_1).f0), .int .i64 ((rd_T24 l0 x10_1).f1), .slice A179_2 ((rd_T24 l0 x10_1).f2).length c179_2] (by rfl) rfl rfl (by (try simp only [List.map_toArray, List.map_cons, List.map_nil]); first | done | rfl | (simp only [List.length_drop, List.length_take]; rfl)) ?_
           with_reducible refine (fuguelaw09_shaped.calls k1 ((rd_T24 l0 x10_1).f0) ((rd_T24 l0 x10_1).f1) _ _ ((rd_T24 l0 x10_1).f2) t182 t183 t184 t185 t188 t191 _ ?side1 ?side2 A8.out).mono ?_
           (case side1 => repeat (first | exact (C_below HR181_2.out HB.out) | (with_reducible refine C_alloc ?_ _) | (with_reducible refine C_drewN ?_ _) | (with_reducible refine C_drew ?_)))
           (case side2 => exact HC181_2.out)
           rintro e w15 ⟨v186, v189, v192, rfl, ho0, ho1, ho2, hb⟩
           refine ⟨_, rfl, ?_⟩
           have n0_ := Am (N_mono (N_told (N_told (N_told (N_old (by (with_reducible repeat (first | apply N_alloc | apply N_drewN | apply N_drew)); exact HO_8.out) hb) (N_base ho0)) (R_base ho1)) (N_base ho2)) (fun _ h_ => h_.1))
           have n1_ := Am (N_mono (N_told (N_told (N_told (N_old (by (with_reducible repeat (first | apply N_alloc | apply N_drewN | apply N_drew)); exact HO_9.out) hb) (N_base ho0)) (R_base ho1)) (N_base ho2)) (fun _ h_ => h_.1))
           have n2_ := Am (N_lower (N_mono (ok' := fun k_ => some k_ ≠ (v189 : Value).ownBlock ∧ some k_ ≠ (v192 : Value).ownBlock ∧ some k_ ≠ (u8 : Value).ownBlock ∧ some k_ ≠ (u9 : Value).ownBlock ∧ k_ ≠ gb194 ∧ k_ ≠ gb195) ho0 (fun k_ hk_ => ⟨hk_.2.1, hk_.2.2, (Kd.fresh' (N_lt (by (with_reducible repeat (first | apply N_alloc | apply N_drewN | apply N_drew)); exact HO_8.out)) k_ hk_.1), (Kd.fresh' (N_lt (by (with_reducible repeat (first | apply N_alloc | apply N_drewN | apply N_drew)); exact HO_9.out)) k_ hk_.1), (Kd.freshB (g := gb194) (o := .cells #[.int .i64 0, .int .i64 0, .int .i64 0, .slice none 0 0] 28 (0, 0)) (by (with_reducible repeat (first | refine blk_drewN ?_ _ | refine blk_drew ?_ | refine blk_alloc ?_ _)); exact BK194.out) k_ hk_.1), (Kd.freshB (g := gb195) (o := .cells #[.slice none 0 0, .slice none 0 0] 31 (0, 0)) (by (with_reducible repeat (first | refine blk_drewN ?_ _ | refine blk_drew ?_ | refine blk_alloc ?_ _)); exact BK195.out) k_ hk_.1)⟩)) (below_size (by repeat (first | (with_reducible first | exact HB.out | apply below_alloc | apply pw_below_drewN | apply below_drew1 | refine below_set ?_ GE194.out | refine below_set ?_ GE195.out) | exact HB.out))))
           have n3_ := Am (R_lower (R_mono (ok' := fun k_ => True) ho1 (fun _ hk_ => trivial)) (below_size (by repeat (first | (with_reducible first | exact HB.out | apply below_alloc | apply pw_below_drewN | apply below_drew1 | refine below_set ?_ GE194.out | refine below_set ?_ GE195.out) | exact HB.out))))
           have n4_ := Am (N_lower (N_mono (ok' := fun k_ => some k_ ≠ (v186 : Value).ownBlock ∧ some k_ ≠ (v189 : Value).ownBlock ∧ some k_ ≠ (u8 : Value).ownBlock ∧ some k_ ≠ (u9 : Value).ownBlock ∧ k_ ≠ gb194 ∧ k_ ≠ gb195) ho2 (fun k_ hk_ => ⟨hk_.2.1, hk_.2.2, (Kd.fresh' (N_lt (by (with_reducible repeat (first | apply N_alloc | apply N_drewN | apply N_drew)); exact HO_8.out)) k_ hk_.1), (Kd.fresh' (N_lt (by (with_reducible repeat (first | apply N_alloc | apply N_drewN | apply N_drew)); exact HO_9.out)) k_ hk_.1), (Kd.freshB (g := gb194) (o := .cells #[.int .i64 0, .int .i64 0, .int .i64 0, .slice none 0 0] 28 (0, 0)) (by (with_reducible repeat (first | refine blk_drewN ?_ _ | refine blk_drew ?_ | refine blk_alloc ?_ _)); exact BK194.out) k_ hk_.1), (Kd.freshB (g := gb195) (o := .cells #[.slice none 0 0, .slice none 0 0] 31 (0, 0)) (by (with_reducible repeat (first | refine blk_drewN ?_ _ | refine blk_drew ?_ | refine blk_alloc ?_ _)); exact BK195.out) k_ hk_.1)⟩)) (below_size (by repeat (first | (with_reducible first | exact HB.out | apply below_alloc | apply pw_below_drewN | apply below_drew1 | refine below_set ?_ GE194.out | refine below_set ?_ GE195.out) | exact HB.out))))
           have n5_ := Am (blk_below (g := gb194) (o := .cells #[.int .i64 0, .int .i64 0, .int .i64 0, .slice none 0 0] 28 (0, 0)) (by (with_reducible repeat (first | refine blk_drewN ?_ _ | refine blk_drew ?_ | refine blk_alloc ?_ _)); exact BK194.out) hb)
           have n6_ := Am (blk_below (g := gb195) (o := .cells #[.slice none 0 0, .slice none 0 0] 31 (0, 0)) (by (with_reducible repeat (first | refine blk_drewN ?_ _ | refine blk_drew ?_ | refine blk_alloc ?_ _)); exact BK195.out) hb)
           have n7_ := Am (below_step (by repeat (first | (with_reducible first | exact HB.out | apply below_alloc | apply pw_below_drewN | apply below_drew1 | refine below_set ?_ GE194.out | refine below_set ?_ GE195.out) | exact HB.out)) hb)
           clear HO_8
           clear HO_9
           clear BK194
           clear BK195
           clear HB
           have HO_8 := n0_
           have HO_9 := n1_
           have HO187 := n2_
           have HO190 := n3_
           have HO193 := n4_
           have BK194 := n5_
           have BK195 := n6_
           have HB := n7_
           clear n0_ n1_ n2_ n3_ n4_ n5_ n6_ n7_
           (try clear hb)
           (try clear hb2)
           (try clear hk)
           (try clear hi)
           (try clear ho0)
           (try clear ho1)
           (try clear ho2)
           refine hK.out _ _ ⟨((HB.out.cell (World.block_lt_of_cell? w _ hw179_0)).trans hw179_0), ((HB.out.cell (World.block_lt_of_cell? w _ hw179_1)).trans hw179_1), ((HB.out.cell (World.block_lt_of_cell? w _ hw179_2)).trans hw179_2), ((HB.out.cell (World.block_lt_of_cell? w _ hw179_3)).trans hw179_3), ((HB.out.cell (World.block_lt_of_cell? w _ hw179_4)).trans hw179_4), ((HB.out.cell (World.block_lt_of_cell? w _ hw180_0)).trans hw180_0), ((HB.out.cell (World.block_lt_of_cell? w _ hw180_1)).trans hw180_1), ((HB.out.cell (World.block_lt_of_cell? w _ hw180_2)).trans hw180_2), ((HB.out.cell (World.block_lt_of_cell? w _ hw180_3)).trans hw180_3), ((HB.out.cell (World.block_lt_of_cell? w _ hw180_4)).trans hw180_4), ((HB.out.cell (World.block_lt_of_cell? w _ hw181_0)).trans hw181_0), ((HB.out.cell (World.block_lt_of_cell? w _ hw181_1)).trans hw181_1), ((HB.out.cell (World.block_lt_of_cell? w _ hw181_2)).trans hw181_2), ((HB.out.cell (World.block_lt_of_cell? w _ hw181_3)).trans hw181_3), ((HB.out.cell (World.block_lt_of_cell? w _ hw181_4)).trans hw181_4)⟩ (fun hHeld => ?_)
           clear hK K
           refine norm_ (a' := ?_) ?_ ?_
           rotate_left
           ·
            show Act.put _ (some 54) _ = _
            simp only [Act.put, List.setIfInBounds_toArray, List.set_cons_zero, List.set_cons_succ, i64_w, i32_w]
            rfl
           refine pure_ (i := 16) (N := some 38) (v := ?_) (a' := ?_) #[true, true, true, true, true, true, true, true, true, true, true, true, true, true, true, true, true, false, false, true, true, false, false] rfl rfl (any_of HT_.out (by kernel_rfl)) (fun _ _ _ h => h) (Or.inl ⟨by rfl, ?_⟩) ?_ ?_
           rotate_left
           ·
            intro w'
            go_simp
            with_reducible rfl
           rotate_left
           ·
            simp only [Act.put, List.setIfInBounds_toArray, List.set_cons_zero, List.set_cons_succ, i64_w, i32_w]
            rfl
           refine pure_ (i := 17) (N := some 55) (v := ?_) (a' := ?_) #[true, true, true, true, true, true, true, true, true, true, true, true, true, true, true, true, true, true, false, true, true, false, false] rfl rfl (any_of HT_.out (by kernel_rfl)) (fun _ _ _ h => h) (Or.inl ⟨by rfl, ?_⟩) ?_ ?_
           rotate_left
           ·
            intro w'
            go_simp
            with_reducible rfl
           rotate_left
           ·
            simp only [Act.put, List.setIfInBounds_toArray, List.set_cons_zero, List.set_cons_succ, i64_w, i32_w]
            rfl
           refine pure_ (i := 18) (N := some 56) (v := ?_) (a' := ?_) #[true, true, true, true, true, true, true, true, true, true, true, true, true, true, true, true, true, true, true, true, true, false, false] rfl rfl (any_of HT_.out (by kernel_rfl)) (fun _ _ _ h => h) (Or.inl ⟨by rfl, ?_⟩) ?_ ?_
           rotate_left
           ·
            intro w'
            go_simp
            with_reducible rfl
           rotate_left
           ·
            simp only [Act.put, List.setIfInBounds_toArray, List.set_cons_zero, List.set_cons_succ, i64_w, i32_w]
            rfl
           exact norm_ (by first | (simp only [putAll, Act.put, List.setIfInBounds_toArray, List.set_cons_zero, List.set_cons_succ]; done) | (simp only [putAll, Act.put, List.setIfInBounds_toArray, List.set_cons_zero, List.set_cons_succ]; rfl)) (hJ15_19_20 (v186, v189, v192, gb194, gb195) _ ⟨hHeld, (by (with_reducible repeat (first | apply N_alloc | apply N_drewN | apply N_drew)); exact HO187.out), (by (with_reducible repeat (first | apply R_alloc | apply R_drewN | apply R_drew)); exact HO190.out), (by (with_reducible repeat (first | apply N_alloc | apply N_drewN | apply N_drew)); exact HO193.out), (by (with_reducible repeat (first | apply N_alloc | apply N_drewN | apply N_drew)); exact N_mono HO_8.out (fun _ hk => ⟨hk.1.1.2, ⟨hk.1.2, ⟨hk.2, ⟨hk.1.1.1.1, ⟨hk.1.1.1.2.1, hk.1.1.1.2.2⟩⟩⟩⟩⟩)), (by (with_reducible repeat (first | apply N_alloc | apply N_drewN | apply N_drew)); exact N_mono HO_9.out (fun _ hk => ⟨hk.1.1.2, ⟨hk.1.2, ⟨hk.2, ⟨hk.1.1.1.1, ⟨hk.1.1.1.2.1, hk.1.1.1.2.2⟩⟩⟩⟩⟩)), (by (with_reducible repeat (first | refine blk_drewN ?_ _ | refine blk_drew ?_ | refine blk_alloc ?_ _)); exact BK194.out), (by (with_reducible repeat (first | refine blk_drewN ?_ _ | refine blk_drew ?_ | refine blk_alloc ?_ _)); exact BK195.out), GW194.out, GE194.out, NB195_194.out, NB194_195.out, GW195.out, GE195.out, (by repeat (first | (with_reducible first | exact HB.out | apply below_alloc | apply pw_below_drewN | apply below_drew1 | refine below_set ?_ GE194.out | refine below_set ?_ GE195.out) | exact HB.out))⟩)
         ·
          skip
          rintro ⟨v186, v189, v192, gb195⟩ w14 ⟨hS_, h0_, h1_, h2_, h3_, h4_, h5_, h6_, h7_, h8_⟩
          have n0_ : Aside0 (Kd.N k102 102 w14 w.heap.size (fun k_ => some k_ ≠ (v189 : Value).ownBlock ∧ some k_ ≠ (v192 : Value).ownBlock ∧ some k_ ≠ (u8 : Value).ownBlock ∧ some k_ ≠ (u9 : Value).ownBlock ∧ k_ ≠ gb195) v186 t185) := ⟨h0_⟩
          have n1_ : Aside0 (Kd.R (Kd.int .i64) 3 w14 w.heap.size (fun _ => True) v189 t188) := ⟨h1_⟩
          have n2_ : Aside0 (Kd.N (Kd.slice 3 (Kd.int .i64)) 22 w14 w.heap.size (fun k_ => some k_ ≠ (v186 : Value).ownBlock ∧ some k_ ≠ (v189 : Value).ownBlock ∧ some k_ ≠ (u8 : Value).ownBlock ∧ some k_ ≠ (u9 : Value).ownBlock ∧ k_ ≠ gb195) v192 t191) := ⟨h2_⟩
          have n3_ : Aside0 (Kd.N k28 28 w14 w.heap.size (fun k_ => some k_ ≠ (v186 : Value).ownBlock ∧ some k_ ≠ (v189 : Value).ownBlock ∧ some k_ ≠ (v192 : Value).ownBlock ∧ some k_ ≠ (u9 : Value).ownBlock ∧ k_ ≠ gb195) u8 x8_1) := ⟨h3_⟩
          have n4_ : Aside0 (Kd.N k31 31 w14 w.heap.size (fun k_ => some k_ ≠ (v186 : Value).ownBlock ∧ some k_ ≠ (v189 : Value).ownBlock ∧ some k_ ≠ (v192 : Value).ownBlock ∧ some k_ ≠ (u8 : Value).ownBlock ∧ k_ ≠ gb195) u9 x9_1) := ⟨h4_⟩
          have n5_ : Aside0 (w14.heap[gb195]? = some (.cells #[.slice none 0 0, .slice none 0 0] 31 (0, 0))) := ⟨h5_⟩
          have n6_ : Aside0 (w.heap.size ≤ gb195) := ⟨h6_⟩
          have n7_ : Aside0 (w.heap.size ≤ gb195) := ⟨h7_⟩
          have n8_ : Aside0 (Below w.heap.size w w14) := ⟨h8_⟩
          clear HO_8
          clear HO_9
          clear HB
          clear h0_ h1_ h2_ h3_ h4_ h5_ h6_ h7_ h8_
          have HO187 := n0_
          have HO190 := n1_
          have HO193 := n2_
          have HO_8 := n3_
          have HO_9 := n4_
          have BK195 := n5_
          have GW195 := n6_
          have GE195 := n7_
          have HB := n8_
          clear n0_ n1_ n2_ n3_ n4_ n5_ n6_ n7_ n8_
          have hHeld : w14.cell? (ad179.add ((x10_1).toNat * 5)) = some (.int .i64 ((rd_T24 l0 x10_1).f0)) ∧ w14.cell? ⟨(ad179.add ((x10_1).toNat * 5)).block, (ad179.add ((x10_1).toNat * 5)).off + 1, none⟩ = some (.int .i64 ((rd_T24 l0 x10_1).f1)) ∧ w14.cell? ⟨(ad179.add ((x10_1).toNat * 5)).block, (ad179.add ((x10_1).toNat * 5)).off + 2, none⟩ = some (.slice A179_2 ((rd_T24 l0 x10_1).f2).length c179_2) ∧ w14.cell? ⟨(ad179.add ((x10_1).toNat * 5)).block, (ad179.add ((x10_1).toNat * 5)).off + 3, none⟩ = some (.slice A179_3 ((rd_T24 l0 x10_1).f3).length c179_3) ∧ w14.cell? ⟨(ad179.add ((x10_1).toNat * 5)).block, (ad179.add ((x10_1).toNat * 5)).off + 4, none⟩ = some (.slice A179_4 ((rd_T24 l0 x10_1).f4).length c179_4) ∧ w14.cell? (ad179.add ((x10_1).toNat * 5)) = some (.int .i64 ((rd_T24 l0 x10_1).f0)) ∧ w14.cell? ⟨(ad179.add ((x10_1).toNat * 5)).block, (ad179.add ((x10_1).toNat * 5)).off + 1, none⟩ = some (.int .i64 ((rd_T24 l0 x10_1).f1)) ∧ w14.cell? ⟨(ad179.add ((x10_1).toNat * 5)).block, (ad179.add ((x10_1).toNat * 5)).off + 2, none⟩ = some (.slice A179_2 ((rd_T24 l0 x10_1).f2).length c179_2) ∧ w14.cell? ⟨(ad179.add ((x10_1).toNat * 5)).block, (ad179.add ((x10_1).toNat * 5)).off + 3, none⟩ = some (.slice A179_3 ((rd_T24 l0 x10_1).f3).length c179_3) ∧ w14.cell? ⟨(ad179.add ((x10_1).toNat * 5)).block, (ad179.add ((x10_1).toNat * 5)).off + 4, none⟩ = some (.slice A179_4 ((rd_T24 l0 x10_1).f4).length c179_4) ∧ w14.cell? (ad179.add ((x10_1).toNat * 5)) = some (.int .i64 ((rd_T24 l0 x10_1).f0)) ∧ w14.cell? ⟨(ad179.add ((x10_1).toNat * 5)).block, (ad179.add ((x10_1).toNat * 5)).off + 1, none⟩ = some (.int .i64 ((rd_T24 l0 x10_1).f1)) ∧ w14.cell? ⟨(ad179.add ((x10_1).toNat * 5)).block, (ad179.add ((x10_1).toNat * 5)).off + 2, none⟩ = some (.slice A179_2 ((rd_T24 l0 x10_1).f2).length c179_2) ∧ w14.cell? ⟨(ad179.add ((x10_1).toNat * 5)).block, (ad179.add ((x10_1).toNat * 5)).off + 3, none⟩ = some (.slice A179_3 ((rd_T24 l0 x10_1).f3).length c179_3) ∧ w14.cell? ⟨(ad179.add ((x10_1).toNat * 5)).block, (ad179.add ((x10_1).toNat * 5)).off + 4, none⟩ = some (.slice A179_4 ((rd_T24 l0 x10_1).f4).length c179_4) := hS_
          refine norm_ (a' := ?_) ?_ ?_
          rotate_left
          ·
           simp only [putAll, Act.put, List.setIfInBounds_toArray, List.set_cons_zero, List.set_cons_succ]
           rfl
          refine one_ (i := 19) (N := some 11) #[true, true, true, true, true, true, true, true, true, true, true, true, true, true, true, true, true, true, true, true, true, false, false] rfl rfl (one_of HT_.out (by kernel_rfl)) (by decide) (fun K hK => ?_)
          refine box_step ?hg (N := 11) ?hd (cs := #[.int .i64 0, .int .i64 0, .int .i64 0, .slice none 0 0]) (t := 28) ?hr ?_; (case hd => rfl); (case hg => rfl); (case hr => first | (go_simp; done) | (go_simp; rfl))
          intro gb194 hg w15 hbox hb
          have n0_ := Am (N_below (N_elderB (by (with_reducible repeat (first | apply N_alloc | apply N_drewN | apply N_drew)); exact HO_8.out) gb194 (Nat.le_of_eq hg.symm)) hb)
          have n1_ := Am (N_below (N_elderB (by (with_reducible repeat (first | apply N_alloc | apply N_drewN | apply N_drew)); exact HO_9.out) gb194 (Nat.le_of_eq hg.symm)) hb)
          have n2_ := Am (N_below (N_elderB (by (with_reducible repeat (first | apply N_alloc | apply N_drewN | apply N_drew)); exact HO187.out) gb194 (Nat.le_of_eq hg.symm)) hb)
          have n3_ := Am (R_below (by (with_reducible repeat (first | apply R_alloc | apply R_drewN | apply R_drew)); exact HO190.out) hb)
          have n4_ := Am (N_below (N_elderB (by (with_reducible repeat (first | apply N_alloc | apply N_drewN | apply N_drew)); exact HO193.out) gb194 (Nat.le_of_eq hg.symm)) hb)
          have n5_ := Am (blk_below (g := gb195) (o := .cells #[.slice none 0 0, .slice none 0 0] 31 (0, 0)) (by (with_reducible repeat (first | refine blk_drewN ?_ _ | refine blk_drew ?_ | refine blk_alloc ?_ _)); exact BK195.out) hb)
          have n6_ := Am (below_step (by repeat (first | (with_reducible first | exact HB.out | apply below_alloc | apply pw_below_drewN | apply below_drew1 | refine below_set ?_ GE195.out) | exact HB.out)) hb)
          have n7_ := Am (hbox)
          have n8_ := Am ((by rw [hg]; exact (below_size (by repeat (first | (with_reducible first | exact HB.out | apply below_alloc | apply pw_below_drewN | apply below_drew1 | refine below_set ?_ GE195.out) | exact HB.out))) : w.heap.size ≤ gb194))
          have n9_ := Am ((by rw [hg]; exact (below_size (by repeat (first | (with_reducible first | exact HB.out | apply below_alloc | apply pw_below_drewN | apply below_drew1 | refine below_set ?_ GE195.out) | exact HB.out))) : w.heap.size ≤ gb194))
          have n10_ := Am ((by rw [hg]; exact Nat.ne_of_lt (blk_lt (g := gb195) (o := .cells #[.slice none 0 0, .slice none 0 0] 31 (0, 0)) (by (with_reducible repeat (first | refine blk_drewN ?_ _ | refine blk_drew ?_ | refine blk_alloc ?_ _)); exact BK195.out)) : gb195 ≠ gb194))
          have n11_ := Am ((by rw [hg]; exact Nat.ne_of_gt (blk_lt (g := gb195) (o := .cells #[.slice none 0 0, .slice none 0 0] 31 (0, 0)) (by (with_reducible repeat (first | refine blk_drewN ?_ _ | refine blk_drew ?_ | refine blk_alloc ?_ _)); exact BK195.out)) : gb194 ≠ gb195))
          clear HO_8
          clear HO_9
          clear HO187
          clear HO190
          clear HO193
          clear BK195
          clear HB
          have HO_8 := n0_
          have HO_9 := n1_
          have HO187 := n2_
          have HO190 := n3_
          have HO193 := n4_
          have BK195 := n5_
          have HB := n6_
          have BK194 := n7_
          have GW194 := n8_
          have GE194 := n9_
          have NB195_194 := n10_
          have NB194_195 := n11_
          clear n0_ n1_ n2_ n3_ n4_ n5_ n6_ n7_ n8_ n9_ n10_ n11_
          clear hb hbox hg
          refine hK.out _ _ ⟨((HB.out.cell (World.block_lt_of_cell? w _ hw179_0)).trans hw179_0), ((HB.out.cell (World.block_lt_of_cell? w _ hw179_1)).trans hw179_1), ((HB.out.cell (World.block_lt_of_cell? w _ hw179_2)).trans hw179_2), ((HB.out.cell (World.block_lt_of_cell? w _ hw179_3)).trans hw179_3), ((HB.out.cell (World.block_lt_of_cell? w _ hw179_4)).trans hw179_4), ((HB.out.cell (World.block_lt_of_cell? w _ hw180_0)).trans hw180_0), ((HB.out.cell (World.block_lt_of_cell? w _ hw180_1)).trans hw180_1), ((HB.out.cell (World.block_lt_of_cell? w _ hw180_2)).trans hw180_2), ((HB.out.cell (World.block_lt_of_cell? w _ hw180_3)).trans hw180_3), ((HB.out.cell (World.block_lt_of_cell? w _ hw180_4)).trans hw180_4), ((HB.out.cell (World.block_lt_of_cell? w _ hw181_0)).trans hw181_0), ((HB.out.cell (World.block_lt_of_cell? w _ hw181_1)).trans hw181_1), ((HB.out.cell (World.block_lt_of_cell? w _ hw181_2)).trans hw181_2), ((HB.out.cell (World.block_lt_of_cell? w _ hw181_3)).trans hw181_3), ((HB.out.cell (World.block_lt_of_cell? w _ hw181_4)).trans hw181_4)⟩ (fun hHeld => ?_)
          clear hK K
          refine norm_ (a' := ?_) ?_ ?_
          rotate_left
          ·
           show Act.put _ (some 11) _ = _
           simp only [Act.put, List.setIfInBounds_toArray, List.set_cons_zero, List.set_cons_succ, i64_w, i32_w]
           rfl
          exact norm_ (by first | (simp only [putAll, Act.put, List.setIfInBounds_toArray, List.set_cons_zero, List.set_cons_succ]; done) | (simp only [putAll, Act.put, List.setIfInBounds_toArray, List.set_cons_zero, List.set_cons_succ]; rfl)) (hJ15_19_20 (v186, v189, v192, gb194, gb195) _ ⟨hHeld, (by (with_reducible repeat (first | apply N_alloc | apply N_drewN | apply N_drew)); exact N_mono HO187.out (fun _ hk => ⟨hk.1.1, ⟨hk.1.2.1, ⟨hk.1.2.2.1, ⟨hk.1.2.2.2.1, ⟨hk.2, hk.1.2.2.2.2⟩⟩⟩⟩⟩)), (by (with_reducible repeat (first | apply R_alloc | apply R_drewN | apply R_drew)); exact HO190.out), (by (with_reducible repeat (first | apply N_alloc | apply N_drewN | apply N_drew)); exact N_mono HO193.out (fun _ hk => ⟨hk.1.1, ⟨hk.1.2.1, ⟨hk.1.2.2.1, ⟨hk.1.2.2.2.1, ⟨hk.2, hk.1.2.2.2.2⟩⟩⟩⟩⟩)), (by (with_reducible repeat (first | apply N_alloc | apply N_drewN | apply N_drew)); exact N_mono HO_8.out (fun _ hk => ⟨hk.1.1, ⟨hk.1.2.1, ⟨hk.1.2.2.1, ⟨hk.1.2.2.2.1, ⟨hk.2, hk.1.2.2.2.2⟩⟩⟩⟩⟩)), (by (with_reducible repeat (first | apply N_alloc | apply N_drewN | apply N_drew)); exact N_mono HO_9.out (fun _ hk => ⟨hk.1.1, ⟨hk.1.2.1, ⟨hk.1.2.2.1, ⟨hk.1.2.2.2.1, ⟨hk.2, hk.1.2.2.2.2⟩⟩⟩⟩⟩)), (by (with_reducible repeat (first | refine blk_drewN ?_ _ | refine blk_drew ?_ | refine blk_alloc ?_ _)); exact BK194.out), (by (with_reducible repeat (first | refine blk_drewN ?_ _ | refine blk_drew ?_ | refine blk_alloc ?_ _)); exact BK195.out), GW194.out, GE194.out, NB195_194.out, NB194_195.out, GW195.out, GE195.out, (by repeat (first | (with_reducible first | exact HB.out | apply below_alloc | apply pw_below_drewN | apply below_drew1 | refine below_set ?_ GE195.out | refine below_set ?_ GE194.out) | exact HB.out))⟩)
        ·
         skip
         rintro ⟨v186, v189, v192, gb194⟩ w14 ⟨hS_, h0_, h1_, h2_, h3_, h4_, h5_, h6_, h7_, h8_⟩
         have n0_ : Aside0 (Kd.N k102 102 w14 w.heap.size (fun k_ => some k_ ≠ (v189 : Value).ownBlock ∧ some k_ ≠ (v192 : Value).ownBlock ∧ some k_ ≠ (u8 : Value).ownBlock ∧ some k_ ≠ (u9 : Value).ownBlock ∧ k_ ≠ gb194) v186 t185) := ⟨h0_⟩
         have n1_ : Aside0 (Kd.R (Kd.int .i64) 3 w14 w.heap.size (fun _ => True) v189 t188) := ⟨h1_⟩
         have n2_ : Aside0 (Kd.N (Kd.slice 3 (Kd.int .i64)) 22 w14 w.heap.size (fun k_ => some k_ ≠ (v186 : Value).ownBlock ∧ some k_ ≠ (v189 : Value).ownBlock ∧ some k_ ≠ (u8 : Value).ownBlock ∧ some k_ ≠ (u9 : Value).ownBlock ∧ k_ ≠ gb194) v192 t191) := ⟨h2_⟩
         have n3_ : Aside0 (Kd.N k28 28 w14 w.heap.size (fun k_ => some k_ ≠ (v186 : Value).ownBlock ∧ some k_ ≠ (v189 : Value).ownBlock ∧ some k_ ≠ (v192 : Value).ownBlock ∧ some k_ ≠ (u9 : Value).ownBlock ∧ k_ ≠ gb194) u8 x8_1) := ⟨h3_⟩
         have n4_ : Aside0 (Kd.N k31 31 w14 w.heap.size (fun k_ => some k_ ≠ (v186 : Value).ownBlock ∧ some k_ ≠ (v189 : Value).ownBlock ∧ some k_ ≠ (v192 : Value).ownBlock ∧ some k_ ≠ (u8 : Value).ownBlock ∧ k_ ≠ gb194) u9 x9_1) := ⟨h4_⟩
         have n5_ : Aside0 (w14.heap[gb194]? = some (.cells #[.int .i64 0, .int .i64 0, .int .i64 0, .slice none 0 0] 28 (0, 0))) := ⟨h5_⟩
         have n6_ : Aside0 (w.heap.size ≤ gb194) := ⟨h6_⟩
         have n7_ : Aside0 (w.heap.size ≤ gb194) := ⟨h7_⟩
         have n8_ : Aside0 (Below w.heap.size w w14) := ⟨h8_⟩
         clear HO_8
         clear HO_9
         clear HB
         clear h0_ h1_ h2_ h3_ h4_ h5_ h6_ h7_ h8_
         have HO187 := n0_
         have HO190 := n1_
         have HO193 := n2_
         have HO_8 := n3_
         have HO_9 := n4_
         have BK194 := n5_
         have GW194 := n6_
         have GE194 := n7_
         have HB := n8_
         clear n0_ n1_ n2_ n3_ n4_ n5_ n6_ n7_ n8_
         have hHeld : w14.cell? (ad179.add ((x10_1).toNat * 5)) = some (.int .i64 ((rd_T24 l0 x10_1).f0)) ∧ w14.cell? ⟨(ad179.add ((x10_1).toNat * 5)).block, (ad179.add ((x10_1).toNat * 5)).off + 1, none⟩ = some (.int .i64 ((rd_T24 l0 x10_1).f1)) ∧ w14.cell? ⟨(ad179.add ((x10_1).toNat * 5)).block, (ad179.add ((x10_1).toNat * 5)).off + 2, none⟩ = some (.slice A179_2 ((rd_T24 l0 x10_1).f2).length c179_2) ∧ w14.cell? ⟨(ad179.add ((x10_1).toNat * 5)).block, (ad179.add ((x10_1).toNat * 5)).off + 3, none⟩ = some (.slice A179_3 ((rd_T24 l0 x10_1).f3).length c179_3) ∧ w14.cell? ⟨(ad179.add ((x10_1).toNat * 5)).block, (ad179.add ((x10_1).toNat * 5)).off + 4, none⟩ = some (.slice A179_4 ((rd_T24 l0 x10_1).f4).length c179_4) ∧ w14.cell? (ad179.add ((x10_1).toNat * 5)) = some (.int .i64 ((rd_T24 l0 x10_1).f0)) ∧ w14.cell? ⟨(ad179.add ((x10_1).toNat * 5)).block, (ad179.add ((x10_1).toNat * 5)).off + 1, none⟩ = some (.int .i64 ((rd_T24 l0 x10_1).f1)) ∧ w14.cell? ⟨(ad179.add ((x10_1).toNat * 5)).block, (ad179.add ((x10_1).toNat * 5)).off + 2, none⟩ = some (.slice A179_2 ((rd_T24 l0 x10_1).f2).length c179_2) ∧ w14.cell? ⟨(ad179.add ((x10_1).toNat * 5)).block, (ad179.add ((x10_1).toNat * 5)).off + 3, none⟩ = some (.slice A179_3 ((rd_T24 l0 x10_1).f3).length c179_3) ∧ w14.cell? ⟨(ad179.add ((x10_1).toNat * 5)).block, (ad179.add ((x10_1).toNat * 5)).off + 4, none⟩ = some (.slice A179_4 ((rd_T24 l0 x10_1).f4).length c179_4) ∧ w14.cell? (ad179.add ((x10_1).toNat * 5)) = some (.int .i64 ((rd_T24 l0 x10_1).f0)) ∧ w14.cell? ⟨(ad179.add ((x10_1).toNat * 5)).block, (ad179.add ((x10_1).toNat * 5)).off + 1, none⟩ = some (.int .i64 ((rd_T24 l0 x10_1).f1)) ∧ w14.cell? ⟨(ad179.add ((x10_1).toNat * 5)).block, (ad179.add ((x10_1).toNat * 5)).off + 2, none⟩ = some (.slice A179_2 ((rd_T24 l0 x10_1).f2).length c179_2) ∧ w14.cell? ⟨(ad179.add ((x10_1).toNat * 5)).block, (ad179.add ((x10_1).toNat * 5)).off + 3, none⟩ = some (.slice A179_3 ((rd_T24 l0 x10_1).f3).length c179_3) ∧ w14.cell? ⟨(ad179.add ((x10_1).toNat * 5)).block, (ad179.add ((x10_1).toNat * 5)).off + 4, none⟩ = some (.slice A179_4 ((rd_T24 l0 x10_1).f4).length c179_4) := hS_
         refine norm_ (a' := ?_) ?_ ?_
         rotate_left
         ·
          simp only [putAll, Act.put, List.setIfInBounds_toArray, List.set_cons_zero, List.set_cons_succ]
          rfl
         refine one_ (i := 20) (N := some 12) #[true, true, true, true, true, true, true, true, true, true, true, true, true, true, true, true, true, true, true, true, true, false, false] rfl rfl (one_of HT_.out (by kernel_rfl)) (by decide) (fun K hK => ?_)
         refine box_step ?hg (N := 12) ?hd (cs := #[.slice none 0 0, .slice none 0 0]) (t := 31) ?hr ?_; (case hd => rfl); (case hg => rfl); (case hr => first | (go_simp; done) | (go_simp; rfl))
         intro gb195 hg w15 hbox hb
         have n0_ := Am (N_below (N_elderB (by (with_reducible repeat (first | apply N_alloc | apply N_drewN | apply N_drew)); exact HO_8.out) gb195 (Nat.le_of_eq hg.symm)) hb)
         have n1_ := Am (N_below (N_elderB (by (with_reducible repeat (first | apply N_alloc | apply N_drewN | apply N_drew)); exact HO_9.out) gb195 (Nat.le_of_eq hg.symm)) hb)
         have n2_ := Am (N_below (N_elderB (by (with_reducible repeat (first | apply N_alloc | apply N_drewN | apply N_drew)); exact HO187.out) gb195 (Nat.le_of_eq hg.symm)) hb)
         have n3_ := Am (R_below (by (with_reducible repeat (first | apply R_alloc | apply R_drewN | apply R_drew)); exact HO190.out) hb)
         have n4_ := Am (N_below (N_elderB (by (with_reducible repeat (first | apply N_alloc | apply N_drewN | apply N_drew)); exact HO193.out) gb195 (Nat.le_of_eq hg.symm)) hb)
         have n5_ := Am (blk_below (g := gb194) (o := .cells #[.int .i64 0, .int .i64 0, .int .i64 0, .slice none 0 0] 28 (0, 0)) (by (with_reducible repeat (first | refine blk_drewN ?_ _ | refine blk_drew ?_ | refine blk_alloc ?_ _)); exact BK194.out) hb)
         have n6_ := Am (below_step (by repeat (first | (with_reducible first | exact HB.out | apply below_alloc | apply pw_below_drewN | apply below_drew1 | refine below_set ?_ GE194.out) | exact HB.out)) hb)
         have n7_ := Am (hbox)
         have n8_ := Am ((by rw [hg]; exact (below_size (by repeat (first | (with_reducible first | exact HB.out | apply below_alloc | apply pw_below_drewN | apply below_drew1 | refine below_set ?_ GE194.out) | exact HB.out))) : w.heap.size ≤ gb195))
         have n9_ := Am ((by rw [hg]; exact (below_size (by repeat (first | (with_reducible first | exact HB.out | apply below_alloc | apply pw_below_drewN | apply below_drew1 | refine below_set ?_ GE194.out) | exact HB.out))) : w.heap.size ≤ gb195))
         have n10_ := Am ((by rw [hg]; exact Nat.ne_of_lt (blk_lt (g := gb194) (o := .cells #[.int .i64 0, .int .i64 0, .int .i64 0, .slice none 0 0] 28 (0, 0)) (by (with_reducible repeat (first | refine blk_drewN ?_ _ | refine blk_drew ?_ | refine blk_alloc ?_ _)); exact BK194.out)) : gb194 ≠ gb195))
         have n11_ := Am ((by rw [hg]; exact Nat.ne_of_gt (blk_lt (g := gb194) (o := .cells #[.int .i64 0, .int .i64 0, .int .i64 0, .slice none 0 0] 28 (0, 0)) (by (with_reducible repeat (first | refine blk_drewN ?_ _ | refine blk_drew ?_ | refine blk_alloc ?_ _)); exact BK194.out)) : gb195 ≠ gb194))
         clear HO_8
         clear HO_9
         clear HO187
         clear HO190
         clear HO193
         clear BK194
         clear HB
         have HO_8 := n0_
         have HO_9 := n1_
         have HO187 := n2_
         have HO190 := n3_
         have HO193 := n4_
         have BK194 := n5_
         have HB := n6_
         have BK195 := n7_
         have GW195 := n8_
         have GE195 := n9_
         have NB194_195 := n10_
         have NB195_194 := n11_
         clear n0_ n1_ n2_ n3_ n4_ n5_ n6_ n7_ n8_ n9_ n10_ n11_
         clear hb hbox hg
         refine hK.out _ _ ⟨((HB.out.cell (World.block_lt_of_cell? w _ hw179_0)).trans hw179_0), ((HB.out.cell (World.block_lt_of_cell? w _ hw179_1)).trans hw179_1), ((HB.out.cell (World.block_lt_of_cell? w _ hw179_2)).trans hw179_2), ((HB.out.cell (World.block_lt_of_cell? w _ hw179_3)).trans hw179_3), ((HB.out.cell (World.block_lt_of_cell? w _ hw179_4)).trans hw179_4), ((HB.out.cell (World.block_lt_of_cell? w _ hw180_0)).trans hw180_0), ((HB.out.cell (World.block_lt_of_cell? w _ hw180_1)).trans hw180_1), ((HB.out.cell (World.block_lt_of_cell? w _ hw180_2)).trans hw180_2), ((HB.out.cell (World.block_lt_of_cell? w _ hw180_3)).trans hw180_3), ((HB.out.cell (World.block_lt_of_cell? w _ hw180_4)).trans hw180_4), ((HB.out.cell (World.block_lt_of_cell? w _ hw181_0)).trans hw181_0), ((HB.out.cell (World.block_lt_of_cell? w _ hw181_1)).trans hw181_1), ((HB.out.cell (World.block_lt_of_cell? w _ hw181_2)).trans hw181_2), ((HB.out.cell (World.block_lt_of_cell? w _ hw181_3)).trans hw181_3), ((HB.out.cell (World.block_lt_of_cell? w _ hw181_4)).trans hw181_4)⟩ (fun hHeld => ?_)
         clear hK K
         refine norm_ (a' := ?_) ?_ ?_
         rotate_left
         ·
          show Act.put _ (some 12) _ = _
          simp only [Act.put, List.setIfInBounds_toArray, List.set_cons_zero, List.set_cons_succ, i64_w, i32_w]
          rfl
         exact norm_ (by first | (simp only [putAll, Act.put, List.setIfInBounds_toArray, List.set_cons_zero, List.set_cons_succ]; done) | (simp only [putAll, Act.put, List.setIfInBounds_toArray, List.set_cons_zero, List.set_cons_succ]; rfl)) (hJ15_19_20 (v186, v189, v192, gb194, gb195) _ ⟨hHeld, (by (with_reducible repeat (first | apply N_alloc | apply N_drewN | apply N_drew)); exact N_mono HO187.out (fun _ hk => ⟨hk.1.1, ⟨hk.1.2.1, ⟨hk.1.2.2.1, ⟨hk.1.2.2.2.1, ⟨hk.1.2.2.2.2, hk.2⟩⟩⟩⟩⟩)), (by (with_reducible repeat (first | apply R_alloc | apply R_drewN | apply R_drew)); exact HO190.out), (by (with_reducible repeat (first | apply N_alloc | apply N_drewN | apply N_drew)); exact N_mono HO193.out (fun _ hk => ⟨hk.1.1, ⟨hk.1.2.1, ⟨hk.1.2.2.1, ⟨hk.1.2.2.2.1, ⟨hk.1.2.2.2.2, hk.2⟩⟩⟩⟩⟩)), (by (with_reducible repeat (first | apply N_alloc | apply N_drewN | apply N_drew)); exact N_mono HO_8.out (fun _ hk => ⟨hk.1.1, ⟨hk.1.2.1, ⟨hk.1.2.2.1, ⟨hk.1.2.2.2.1, ⟨hk.1.2.2.2.2, hk.2⟩⟩⟩⟩⟩)), (by (with_reducible repeat (first | apply N_alloc | apply N_drewN | apply N_drew)); exact N_mono HO_9.out (fun _ hk => ⟨hk.1.1, ⟨hk.1.2.1, ⟨hk.1.2.2.1, ⟨hk.1.2.2.2.1, ⟨hk.1.2.2.2.2, hk.2⟩⟩⟩⟩⟩)), (by (with_reducible repeat (first | refine blk_drewN ?_ _ | refine blk_drew ?_ | refine blk_alloc ?_ _)); exact BK194.out), (by (with_reducible repeat (first | refine blk_drewN ?_ _ | refine blk_drew ?_ | refine blk_alloc ?_ _)); exact BK195.out), GW194.out, GE194.out, NB195_194.out, NB194_195.out, GW195.out, GE195.out, (by repeat (first | (with_reducible first | exact HB.out | apply below_alloc | apply pw_below_drewN | apply below_drew1 | refine below_set ?_ GE194.out | refine below_set ?_ GE195.out) | exact HB.out))⟩)
       rintro ⟨v186, v189, v192, gb194, gb195⟩ w15 ⟨hS_, h0_, h1_, h2_, h3_, h4_, h5_, h6_, h7_, h8_, h9_, h10_, h11_, h12_, h13_⟩
       have n0_ : Aside0 (Kd.N k102 102 w15 w.heap.size (fun k_ => some k_ ≠ (v189 : Value).ownBlock ∧ some k_ ≠ (v192 : Value).ownBlock ∧ some k_ ≠ (u8 : Value).ownBlock ∧ some k_ ≠ (u9 : Value).ownBlock ∧ k_ ≠ gb194 ∧ k_ ≠ gb195) v186 t185) := ⟨h0_⟩
       have n1_ : Aside0 (Kd.R (Kd.int .i64) 3 w15 w.heap.size (fun _ => True) v189 t188) := ⟨h1_⟩
       have n2_ : Aside0 (Kd.N (Kd.slice 3 (Kd.int .i64)) 22 w15 w.heap.size (fun k_ => some k_ ≠ (v186 : Value).ownBlock ∧ some k_ ≠ (v189 : Value).ownBlock ∧ some k_ ≠ (u8 : Value).ownBlock ∧ some k_ ≠ (u9 : Value).ownBlock ∧ k_ ≠ gb194 ∧ k_ ≠ gb195) v192 t191) := ⟨h2_⟩
       have n3_ : Aside0 (Kd.N k28 28 w15 w.heap.size (fun k_ => some k_ ≠ (v186 : Value).ownBlock ∧ some k_ ≠ (v189 : Value).ownBlock ∧ some k_ ≠ (v192 : Value).ownBlock ∧ some k_ ≠ (u9 : Value).ownBlock ∧ k_ ≠ gb194 ∧ k_ ≠ gb195) u8 x8_1) := ⟨h3_⟩
       have n4_ : Aside0 (Kd.N k31 31 w15 w.heap.size (fun k_ => some k_ ≠ (v186 : Value).ownBlock ∧ some k_ ≠ (v189 : Value).ownBlock ∧ some k_ ≠ (v192 : Value).ownBlock ∧ some k_ ≠ (u8 : Value).ownBlock ∧ k_ ≠ gb194 ∧ k_ ≠ gb195) u9 x9_1) := ⟨h4_⟩
       have n5_ : Aside0 (w15.heap[gb194]? = some (.cells #[.int .i64 0, .int .i64 0, .int .i64 0, .slice none 0 0] 28 (0, 0))) := ⟨h5_⟩
       have n6_ : Aside0 (w15.heap[gb195]? = some (.cells #[.slice none 0 0, .slice none 0 0] 31 (0, 0))) := ⟨h6_⟩
       have n7_ : Aside0 (w.heap.size ≤ gb194) := ⟨h7_⟩
       have n8_ : Aside0 (w.heap.size ≤ gb194) := ⟨h8_⟩
       have n9_ : Aside0 (gb195 ≠ gb194) := ⟨h9_⟩
       have n10_ : Aside0 (gb194 ≠ gb195) := ⟨h10_⟩
       have n11_ : Aside0 (w.heap.size ≤ gb195) := ⟨h11_⟩
       have n12_ : Aside0 (w.heap.size ≤ gb195) := ⟨h12_⟩
       have n13_ : Aside0 (Below w.heap.size w w15) := ⟨h13_⟩
       clear HO_8
       clear HO_9
       clear HB
       clear h0_ h1_ h2_ h3_ h4_ h5_ h6_ h7_ h8_ h9_ h10_ h11_ h12_ h13_
       have HO187 := n0_
       have HO190 := n1_
       have HO193 := n2_
       have HO_8 := n3_
       have HO_9 := n4_
       have BK194 := n5_
       have BK195 := n6_
       have GW194 := n7_
       have GE194 := n8_
       have NB195_194 := n9_
       have NB194_195 := n10_
       have GW195 := n11_
       have GE195 := n12_
       have HB := n13_
       clear n0_ n1_ n2_ n3_ n4_ n5_ n6_ n7_ n8_ n9_ n10_ n11_ n12_ n13_
       have hHeld : w15.cell? (ad179.add ((x10_1).toNat * 5)) = some (.int .i64 ((rd_T24 l0 x10_1).f0)) ∧ w15.cell? ⟨(ad179.add ((x10_1).toNat * 5)).block, (ad179.add ((x10_1).toNat * 5)).off + 1, none⟩ = some (.int .i64 ((rd_T24 l0 x10_1).f1)) ∧ w15.cell? ⟨(ad179.add ((x10_1).toNat * 5)).block, (ad179.add ((x10_1).toNat * 5)).off + 2, none⟩ = some (.slice A179_2 ((rd_T24 l0 x10_1).f2).length c179_2) ∧ w15.cell? ⟨(ad179.add ((x10_1).toNat * 5)).block, (ad179.add ((x10_1).toNat * 5)).off + 3, none⟩ = some (.slice A179_3 ((rd_T24 l0 x10_1).f3).length c179_3) ∧ w15.cell? ⟨(ad179.add ((x10_1).toNat * 5)).block, (ad179.add ((x10_1).toNat * 5)).off + 4, none⟩ = some (.slice A179_4 ((rd_T24 l0 x10_1).f4).length c179_4) ∧ w15.cell? (ad179.add ((x10_1).toNat * 5)) = some (.int .i64 ((rd_T24 l0 x10_1).f0)) ∧ w15.cell? ⟨(ad179.add ((x10_1).toNat * 5)).block, (ad179.add ((x10_1).toNat * 5)).off + 1, none⟩ = some (.int .i64 ((rd_T24 l0 x10_1).f1)) ∧ w15.cell? ⟨(ad179.add ((x10_1).toNat * 5)).block, (ad179.add ((x10_1).toNat * 5)).off + 2, none⟩ = some (.slice A179_2 ((rd_T24 l0 x10_1).f2).length c179_2) ∧ w15.cell? ⟨(ad179.add ((x10_1).toNat * 5)).block, (ad179.add ((x10_1).toNat * 5)).off + 3, none⟩ = some (.slice A179_3 ((rd_T24 l0 x10_1).f3).length c179_3) ∧ w15.cell? ⟨(ad179.add ((x10_1).toNat * 5)).block, (ad179.add ((x10_1).toNat * 5)).off + 4, none⟩ = some (.slice A179_4 ((rd_T24 l0 x10_1).f4).length c179_4) ∧ w15.cell? (ad179.add ((x10_1).toNat * 5)) = some (.int .i64 ((rd_T24 l0 x10_1).f0)) ∧ w15.cell? ⟨(ad179.add ((x10_1).toNat * 5)).block, (ad179.add ((x10_1).toNat * 5)).off + 1, none⟩ = some (.int .i64 ((rd_T24 l0 x10_1).f1)) ∧ w15.cell? ⟨(ad179.add ((x10_1).toNat * 5)).block, (ad179.add ((x10_1).toNat * 5)).off + 2, none⟩ = some (.slice A179_2 ((rd_T24 l0 x10_1).f2).length c179_2) ∧ w15.cell? ⟨(ad179.add ((x10_1).toNat * 5)).block, (ad179.add ((x10_1).toNat * 5)).off + 3, none⟩ = some (.slice A179_3 ((rd_T24 l0 x10_1).f3).length c179_3) ∧ w15.cell? ⟨(ad179.add ((x10_1).toNat * 5)).block, (ad179.add ((x10_1).toNat * 5)).off + 4, none⟩ = some (.slice A179_4 ((rd_T24 l0 x10_1).f4).length c179_4) := hS_
       obtain ⟨Ao19, co19, eo19⟩ := N_slice HO187.out
       (first | subst eo19 | (injection eo19 with f1_ f2_ f3_; have f4_ := f1_.symm; have f5_ := f3_.symm; clear f1_ f2_ f3_; subst f4_; subst f5_))
       obtain ⟨Ao21, co21, eo21⟩ := R_slice HO190.out
       (first | subst eo21 | (injection eo21 with f1_ f2_ f3_; have f4_ := f1_.symm; have f5_ := f3_.symm; clear f1_ f2_ f3_; subst f4_; subst f5_))
       obtain ⟨Ao23, co23, eo23⟩ := N_slice HO193.out
       (first | subst eo23 | (injection eo23 with f1_ f2_ f3_; have f4_ := f1_.symm; have f5_ := f3_.symm; clear f1_ f2_ f3_; subst f4_; subst f5_))
       refine norm_ (a' := ?_) ?_ ?_
       rotate_left
       ·
        simp only [putAll, Act.put, List.setIfInBounds_toArray, List.set_cons_zero, List.set_cons_succ]
        rfl
       refine one_ (i := 21) (N := none) #[true, true, true, true, true, true, true, true, true, true, true, true, true, true, true, true, true, true, true, true, true, true, false] rfl rfl (one_of HT_.out (by kernel_rfl)) (by decide) (fun K hK => ?_)
       have hs16 : w15.cell? ⟨gb194, 0, none⟩ = some (.int .i64 0) := (blk_cell BK194.out 0).trans rfl
       have hfs16 := blk_frozen BK194.out 0
       have hns16_1 := NB195_194.out
       have hms16_1 := NB194_195.out
       have hs17 : w15.cell? ⟨gb194, 1, none⟩ = some (.int .i64 0) := (blk_cell BK194.out 1).trans rfl
       have hfs17 := blk_frozen BK194.out 1
       have hns17_1 := NB195_194.out
       have hms17_1 := NB194_195.out
       have hs18 : w15.cell? ⟨gb194, 2, none⟩ = some (.int .i64 0) := (blk_cell BK194.out 2).trans rfl
       have hfs18 := blk_frozen BK194.out 2
       have hns18_1 := NB195_194.out
       have hms18_1 := NB194_195.out
       have hs20 : w15.cell? ⟨gb194, 3, none⟩ = some (.slice none 0 0) := (blk_cell BK194.out 3).trans rfl
       have hfs20 := blk_frozen BK194.out 3
       have hns20_1 := NB195_194.out
       have hms20_1 := NB194_195.out
       refine skip_ (w1 := ?_) (by rfl) rfl ?_ ?_
       rotate_left
       ·
        go_simp
        rfl
       refine hK.out _ _ ⟨((cell_far (p := ⟨gb194, _, none⟩) (nb hw179_0 GW194.out (by first | rfl | simp only [add_block])) _).trans (((cell_far (p := ⟨gb194, _, none⟩) (nb hw179_0 GW194.out (by first | rfl | simp only [add_block])) _).trans (((cell_far (p := ⟨gb194, _, none⟩) (nb hw179_0 GW194.out (by first | rfl | simp only [add_block])) _).trans (((cell_far (p := ⟨gb194, _, none⟩) (nb hw179_0 GW194.out (by first | rfl | simp only [add_block])) _).trans (hHeld.1)))))))), ((cell_far (p := ⟨gb194, _, none⟩) (nb hw179_1 GW194.out (by first | rfl | simp only [add_block])) _).trans (((cell_far (p := ⟨gb194, _, none⟩) (nb hw179_1 GW194.out (by first | rfl | simp only [add_block])) _).trans (((cell_far (p := ⟨gb194, _, none⟩) (nb hw179_1 GW194.out (by first | rfl | simp only [add_block])) _).trans (((cell_far (p := ⟨gb194, _, none⟩) (nb hw179_1 GW194.out (by first | rfl | simp only [add_block])) _).trans (hHeld.2.1)))))))), ((cell_far (p := ⟨gb194, _, none⟩) (nb hw179_2 GW194.out (by first | rfl | simp only [add_block])) _).trans (((cell_far (p := ⟨gb194, _, none⟩) (nb hw179_2 GW194.out (by first | rfl | simp only [add_block])) _).trans (((cell_far (p := ⟨gb194, _, none⟩) (nb hw179_2 GW194.out (by first | rfl | simp only [add_block])) _).trans (((cell_far (p := ⟨gb194, _, none⟩) (nb hw179_2 GW194.out (by first | rfl | simp only [add_block])) _).trans (hHeld.2.2.1)))))))), ((cell_far (p := ⟨gb194, _, none⟩) (nb hw179_3 GW194.out (by first | rfl | simp only [add_block])) _).trans (((cell_far (p := ⟨gb194, _, none⟩) (nb hw179_3 GW194.out (by first | rfl | simp only [add_block])) _).trans (((cell_far (p := ⟨gb194, _, none⟩) (nb hw179_3 GW194.out (by first | rfl | simp only [add_block])) _).trans (((cell_far (p := ⟨gb194, _, none⟩) (nb hw179_3 GW194.out (by first | rfl | simp only [add_block])) _).trans (hHeld.2.2.2.1)))))))), ((cell_far (p := ⟨gb194, _, none⟩) (nb hw179_4 GW194.out (by first | rfl | simp only [add_block])) _).trans (((cell_far (p := ⟨gb194, _, none⟩) (nb hw179_4 GW194.out (by first | rfl | simp only [add_block])) _).trans (((cell_far (p := ⟨gb194, _, none⟩) (nb hw179_4 GW194.out (by first | rfl | simp only [add_block])) _).trans (((cell_far (p := ⟨gb194, _, none⟩) (nb hw179_4 GW194.out (by first | rfl | simp only [add_block])) _).trans (hHeld.2.2.2.2.1)))))))), ((cell_far (p := ⟨gb194, _, none⟩) (nb hw180_0 GW194.out (by first | rfl | simp only [add_block])) _).trans (((cell_far (p := ⟨gb194, _, none⟩) (nb hw180_0 GW194.out (by first | rfl | simp only [add_block])) _).trans (((cell_far (p := ⟨gb194, _, none⟩) (nb hw180_0 GW194.out (by first | rfl | simp only [add_block])) _).trans (((cell_far (p := ⟨gb194, _, none⟩) (nb hw180_0 GW194.out (by first | rfl | simp only [add_block])) _).trans (hHeld.2.2.2.2.2.1)))))))), ((cell_far (p := ⟨gb194, _, none⟩) (nb hw180_1 GW194.out (by first | rfl | simp only [add_block])) _).trans (((cell_far (p := ⟨gb194, _, none⟩) (nb hw180_1 GW194.out (by first | rfl | simp only [add_block])) _).trans (((cell_far (p := ⟨gb194, _, none⟩) (nb hw180_1 GW194.out (by first | rfl | simp only [add_block])) _).trans (((cell_far (p := ⟨gb194, _, none⟩) (nb hw180_1 GW194.out (by first | rfl | simp only [add_block])) _).trans (hHeld.2.2.2.2.2.2.1)))))))), ((cell_far (p := ⟨gb194, _, none⟩) (nb hw180_2 GW194.out (by first | rfl | simp only [add_block])) _).trans (((cell_far (p := ⟨gb194, _, none⟩) (nb hw180_2 GW194.out (by first | rfl | simp only [add_block])) _).trans (((cell_far (p := ⟨gb194, _, none⟩) (nb hw180_2 GW194.out (by first | rfl | simp only [add_block])) _).trans (((cell_far (p := ⟨gb194, _, none⟩) (nb hw180_2 GW194.out (by first | rfl | simp only [add_block])) _).trans (hHeld.2.2.2.2.2.2.2.1)))))))), ((cell_far (p := ⟨gb194, _, none⟩) (nb hw180_3 GW194.out (by first | rfl | simp only [add_block])) _).trans (((cell_far (p := ⟨gb194, _, none⟩) (nb hw180_3 GW194.out (by first | rfl | simp only [add_block])) _).trans (((cell_far (p := ⟨gb194, _, none⟩) (nb hw180_3 GW194.out (by first | rfl | simp only [add_block])) _).trans (((cell_far (p := ⟨gb194, _, none⟩) (nb hw180_3 GW194.out (by first | rfl | simp only [add_block])) _).trans (hHeld.2.2.2.2.2.2.2.2.1)))))))), ((cell_far (p := ⟨gb194, _, none⟩) (nb hw180_4 GW194.out (by first | rfl | simp only [add_block])) _).trans (((cell_far (p := ⟨gb194, _, none⟩) (nb hw180_4 GW194.out (by first | rfl | simp only [add_block])) _).trans (((cell_far (p := ⟨gb194, _, none⟩) (nb hw180_4 GW194.out (by first | rfl | simp only [add_block])) _).trans (((cell_far (p := ⟨gb194, _, none⟩) (nb hw180_4 GW194.out (by first | rfl | simp only [add_block])) _).trans (hHeld.2.2.2.2.2.2.2.2.2.1)))))))), ((cell_far (p := ⟨gb194, _, none⟩) (nb hw181_0 GW194.out (by first | rfl | simp only [add_block])) _).trans (((cell_far (p := ⟨gb194, _, none⟩) (nb hw181_0 GW194.out (by first | rfl | simp only [add_block])) _).trans (((cell_far (p := ⟨gb194, _, none⟩) (nb hw181_0 GW194.out (by first | rfl | simp only [add_block])) _).trans (((cell_far (p := ⟨gb194, _, none⟩) (nb hw181_0 GW194.out (by first | rfl | simp only [add_block])) _).trans (hHeld.2.2.2.2.2.2.2.2.2.2.1)))))))), ((cell_far (p := ⟨gb194, _, none⟩) (nb hw181_1 GW194.out (by first | rfl | simp only [add_block])) _).trans (((cell_far (p := ⟨gb194, _, none⟩) (nb hw181_1 GW194.out (by first | rfl | simp only [add_block])) _).trans (((cell_far (p := ⟨gb194, _, none⟩) (nb hw181_1 GW194.out (by first | rfl | simp only [add_block])) _).trans (((cell_far (p := ⟨gb194, _, none⟩) (nb hw181_1 GW194.out (by first | rfl | simp only [add_block])) _).trans (hHeld.2.2.2.2.2.2.2.2.2.2.2.1)))))))), ((cell_far (p := ⟨gb194, _, none⟩) (nb hw181_2 GW194.out (by first | rfl | simp only [add_block])) _).trans (((cell_far (p := ⟨gb194, _, none⟩) (nb hw181_2 GW194.out (by first | rfl | simp only [add_block])) _).trans (((cell_far (p := ⟨gb194, _, none⟩) (nb hw181_2 GW194.out (by first | rfl | simp only [add_block])) _).trans (((cell_far (p := ⟨gb194, _, none⟩) (nb hw181_2 GW194.out (by first | rfl | simp only [add_block])) _).trans (hHeld.2.2.2.2.2.2.2.2.2.2.2.2.1)))))))), ((cell_far (p := ⟨gb194, _, none⟩) (nb hw181_3 GW194.out (by first | rfl | simp only [add_block])) _).trans (((cell_far (p := ⟨gb194, _, none⟩) (nb hw181_3 GW194.out (by first | rfl | simp only [add_block])) _).trans (((cell_far (p := ⟨gb194, _, none⟩) (nb hw181_3 GW194.out (by first | rfl | simp only [add_block])) _).trans (((cell_far (p := ⟨gb194, _, none⟩) (nb hw181_3 GW194.out (by first | rfl | simp only [add_block])) _).trans (hHeld.2.2.2.2.2.2.2.2.2.2.2.2.2.1)))))))), ((cell_far (p := ⟨gb194, _, none⟩) (nb hw181_4 GW194.out (by first | rfl | simp only [add_block])) _).trans (((cell_far (p := ⟨gb194, _, none⟩) (nb hw181_4 GW194.out (by first | rfl | simp only [add_block])) _).trans (((cell_far (p := ⟨gb194, _, none⟩) (nb hw181_4 GW194.out (by first | rfl | simp only [add_block])) _).trans (((cell_far (p := ⟨gb194, _, none⟩) (nb hw181_4 GW194.out (by first | rfl | simp only [add_block])) _).trans (hHeld.2.2.2.2.2.2.2.2.2.2.2.2.2.2))))))))⟩ (fun hHeld => ?_)
       clear hK K
       refine one_ (i := 22) (N := none) #[true, true, true, true, true, true, true, true, true, true, true, true, true, true, true, true, true, true, true, true, true, true, true] rfl rfl (one_of HT_.out (by kernel_rfl)) (by decide) (fun K hK => ?_)
       have hs22 : w15.cell? ⟨gb195, 0, none⟩ = some (.slice none 0 0) := (blk_cell BK195.out 0).trans rfl
       have hfs22 := blk_frozen BK195.out 0
       have hns22_0 := NB194_195.out
       have hms22_0 := NB195_194.out
       have hs24 : w15.cell? ⟨gb195, 1, none⟩ = some (.slice none 0 0) := (blk_cell BK195.out 1).trans rfl
       have hfs24 := blk_frozen BK195.out 1
       have hns24_0 := NB194_195.out
       have hms24_0 := NB195_194.out
       refine skip_ (w1 := ?_) (by rfl) rfl ?_ ?_
       rotate_left
       ·
        go_simp
        rfl
       refine hK.out _ _ ⟨((cell_far (p := ⟨gb195, _, none⟩) (nb hw179_0 GW195.out (by first | rfl | simp only [add_block])) _).trans (((cell_far (p := ⟨gb195, _, none⟩) (nb hw179_0 GW195.out (by first | rfl | simp only [add_block])) _).trans (hHeld.1)))), ((cell_far (p := ⟨gb195, _, none⟩) (nb hw179_1 GW195.out (by first | rfl | simp only [add_block])) _).trans (((cell_far (p := ⟨gb195, _, none⟩) (nb hw179_1 GW195.out (by first | rfl | simp only [add_block])) _).trans (hHeld.2.1)))), ((cell_far (p := ⟨gb195, _, none⟩) (nb hw179_2 GW195.out (by first | rfl | simp only [add_block])) _).trans (((cell_far (p := ⟨gb195, _, none⟩) (nb hw179_2 GW195.out (by first | rfl | simp only [add_block])) _).trans (hHeld.2.2.1)))), ((cell_far (p := ⟨gb195, _, none⟩) (nb hw179_3 GW195.out (by first | rfl | simp only [add_block])) _).trans (((cell_far (p := ⟨gb195, _, none⟩) (nb hw179_3 GW195.out (by first | rfl | simp only [add_block])) _).trans (hHeld.2.2.2.1)))), ((cell_far (p := ⟨gb195, _, none⟩) (nb hw179_4 GW195.out (by first | rfl | simp only [add_block])) _).trans (((cell_far (p := ⟨gb195, _, none⟩) (nb hw179_4 GW195.out (by first | rfl | simp only [add_block])) _).trans (hHeld.2.2.2.2.1)))), ((cell_far (p := ⟨gb195, _, none⟩) (nb hw180_0 GW195.out (by first | rfl | simp only [add_block])) _).trans (((cell_far (p := ⟨gb195, _, none⟩) (nb hw180_0 GW195.out (by first | rfl | simp only [add_block])) _).trans (hHeld.2.2.2.2.2.1)))), ((cell_far (p := ⟨gb195, _, none⟩) (nb hw180_1 GW195.out (by first | rfl | simp only [add_block])) _).trans (((cell_far (p := ⟨gb195, _, none⟩) (nb hw180_1 GW195.out (by first | rfl | simp only [add_block])) _).trans (hHeld.2.2.2.2.2.2.1)))), ((cell_far (p := ⟨gb195, _, none⟩) (nb hw180_2 GW195.out (by first | rfl | simp only [add_block])) _).trans (((cell_far (p := ⟨gb195, _, none⟩) (nb hw180_2 GW195.out (by first | rfl | simp only [add_block])) _).trans (hHeld.2.2.2.2.2.2.2.1)))), ((cell_far (p := ⟨gb195, _, none⟩) (nb hw180_3 GW195.out (by first | rfl | simp only [add_block])) _).trans (((cell_far (p := ⟨gb195, _, none⟩) (nb hw180_3 GW195.out (by first | rfl | simp only [add_block])) _).trans (hHeld.2.2.2.2.2.2.2.2.1)))), ((cell_far (p := ⟨gb195, _, none⟩) (nb hw180_4 GW195.out (by first | rfl | simp only [add_block])) _).trans (((cell_far (p := ⟨gb195, _, none⟩) (nb hw180_4 GW195.out (by first | rfl | simp only [add_block])) _).trans (hHeld.2.2.2.2.2.2.2.2.2.1)))), ((cell_far (p := ⟨gb195, _, none⟩) (nb hw181_0 GW195.out (by first | rfl | simp only [add_block])) _).trans (((cell_far (p := ⟨gb195, _, none⟩) (nb hw181_0 GW195.out (by first | rfl | simp only [add_block])) _).trans (hHeld.2.2.2.2.2.2.2.2.2.2.1)))), ((cell_far (p := ⟨gb195, _, none⟩) (nb hw181_1 GW195.out (by first | rfl | simp only [add_block])) _).trans (((cell_far (p := ⟨gb195, _, none⟩) (nb hw181_1 GW195.out (by first | rfl | simp only [add_block])) _).trans (hHeld.2.2.2.2.2.2.2.2.2.2.2.1)))), ((cell_far (p := ⟨gb195, _, none⟩) (nb hw181_2 GW195.out (by first | rfl | simp only [add_block])) _).trans (((cell_far (p := ⟨gb195, _, none⟩) (nb hw181_2 GW195.out (by first | rfl | simp only [add_block])) _).trans (hHeld.2.2.2.2.2.2.2.2.2.2.2.2.1)))), ((cell_far (p := ⟨gb195, _, none⟩) (nb hw181_3 GW195.out (by first | rfl | simp only [add_block])) _).trans (((cell_far (p := ⟨gb195, _, none⟩) (nb hw181_3 GW195.out (by first | rfl | simp only [add_block])) _).trans (hHeld.2.2.2.2.2.2.2.2.2.2.2.2.2.1)))), ((cell_far (p := ⟨gb195, _, none⟩) (nb hw181_4 GW195.out (by first | rfl | simp only [add_block])) _).trans (((cell_far (p := ⟨gb195, _, none⟩) (nb hw181_4 GW195.out (by first | rfl | simp only [add_block])) _).trans (hHeld.2.2.2.2.2.2.2.2.2.2.2.2.2.2))))⟩ (fun hHeld => ?_)
       clear hK K
       refine done_ (done_of HT_.out (by kernel_rfl)) ?_
       have n0_ : Aside0 (Kd.N k28 28 ((((((w15.setCell ⟨gb194, 0, none⟩ (.int .i64 t182)).setCell ⟨gb194, 1, none⟩ (.int .i64 t183)).setCell ⟨gb194, 2, none⟩ (.int .i64 t184)).setCell ⟨gb194, 3, none⟩ (.slice Ao19 t185.length co19)).setCell ⟨gb195, 0, none⟩ (.slice Ao21 t188.length co21)).setCell ⟨gb195, 1, none⟩ (.slice Ao23 t191.length co23)) w.heap.size (fun k_ => some k_ ≠ (u9 : Value).ownBlock ∧ some k_ ≠ (.slice Ao19 t185.length co19 : Value).ownBlock ∧ some k_ ≠ (.slice Ao21 t188.length co21 : Value).ownBlock ∧ some k_ ≠ (.slice Ao23 t191.length co23 : Value).ownBlock ∧ k_ ≠ gb194 ∧ k_ ≠ gb195) u8 x8_1) := ⟨by (with_reducible repeat (first | apply N_alloc | apply N_drewN | apply N_drew)); exact N_mono (N_far (p := ⟨gb195, 1, none⟩) (N_far (p := ⟨gb195, 0, none⟩) (N_far (p := ⟨gb194, 3, none⟩) (N_far (p := ⟨gb194, 2, none⟩) (N_far (p := ⟨gb194, 1, none⟩) (N_far (p := ⟨gb194, 0, none⟩) (N_mono (N_mono HO_8.out (fun k_ hk => (⟨hk, hk.2.2.2.2.1⟩ : _ ∧ k_ ≠ gb194))) (fun k_ hk => (⟨hk, hk.1.2.2.2.2.2⟩ : _ ∧ k_ ≠ gb195))) (fun _ hk => hk.1.2) (.int .i64 t182)) (fun _ hk => hk.1.2) (.int .i64 t183)) (fun _ hk => hk.1.2) (.int .i64 t184)) (fun _ hk => hk.1.2) (.slice Ao19 t185.length co19)) (fun _ hk => hk.2) (.slice Ao21 t188.length co21)) (fun _ hk => hk.2) (.slice Ao23 t191.length co23)) (fun _ hk => ⟨hk.1.1.2.2.2.1, ⟨hk.1.1.1, ⟨hk.1.1.2.1, ⟨hk.1.1.2.2.1, ⟨hk.1.1.2.2.2.2.1, hk.1.1.2.2.2.2.2⟩⟩⟩⟩⟩)⟩
       have n1_ : Aside0 (Kd.N k31 31 ((((((w15.setCell ⟨gb194, 0, none⟩ (.int .i64 t182)).setCell ⟨gb194, 1, none⟩ (.int .i64 t183)).setCell ⟨gb194, 2, none⟩ (.int .i64 t184)).setCell ⟨gb194, 3, none⟩ (.slice Ao19 t185.length co19)).setCell ⟨gb195, 0, none⟩ (.slice Ao21 t188.length co21)).setCell ⟨gb195, 1, none⟩ (.slice Ao23 t191.length co23)) w.heap.size (fun k_ => some k_ ≠ (u8 : Value).ownBlock ∧ some k_ ≠ (.slice Ao19 t185.length co19 : Value).ownBlock ∧ some k_ ≠ (.slice Ao21 t188.length co21 : Value).ownBlock ∧ some k_ ≠ (.slice Ao23 t191.length co23 : Value).ownBlock ∧ k_ ≠ gb194 ∧ k_ ≠ gb195) u9 x9_1) := ⟨by (with_reducible repeat (first | apply N_alloc | apply N_drewN | apply N_drew)); exact N_mono (N_far (p := ⟨gb195, 1, none⟩) (N_far (p := ⟨gb195, 0, none⟩) (N_far (p := ⟨gb194, 3, none⟩) (N_far (p := ⟨gb194, 2, none⟩) (N_far (p := ⟨gb194, 1, none⟩) (N_far (p := ⟨gb194, 0, none⟩) (N_mono (N_mono HO_9.out (fun k_ hk => (⟨hk, hk.2.2.2.2.1⟩ : _ ∧ k_ ≠ gb194))) (fun k_ hk => (⟨hk, hk.1.2.2.2.2.2⟩ : _ ∧ k_ ≠ gb195))) (fun _ hk => hk.1.2) (.int .i64 t182)) (fun _ hk => hk.1.2) (.int .i64 t183)) (fun _ hk => hk.1.2) (.int .i64 t184)) (fun _ hk => hk.1.2) (.slice Ao19 t185.length co19)) (fun _ hk => hk.2) (.slice Ao21 t188.length co21)) (fun _ hk => hk.2) (.slice Ao23 t191.length co23)) (fun _ hk => ⟨hk.1.1.2.2.2.1, ⟨hk.1.1.1, ⟨hk.1.1.2.1, ⟨hk.1.1.2.2.1, ⟨hk.1.1.2.2.2.2.1, hk.1.1.2.2.2.2.2⟩⟩⟩⟩⟩)⟩
       have n2_ : Aside0 (Kd.N k102 102 ((((((w15.setCell ⟨gb194, 0, none⟩ (.int .i64 t182)).setCell ⟨gb194, 1, none⟩ (.int .i64 t183)).setCell ⟨gb194, 2, none⟩ (.int .i64 t184)).setCell ⟨gb194, 3, none⟩ (.slice Ao19 t185.length co19)).setCell ⟨gb195, 0, none⟩ (.slice Ao21 t188.length co21)).setCell ⟨gb195, 1, none⟩ (.slice Ao23 t191.length co23)) w.heap.size (fun k_ => some k_ ≠ (u8 : Value).ownBlock ∧ some k_ ≠ (u9 : Value).ownBlock ∧ some k_ ≠ (.slice Ao21 t188.length co21 : Value).ownBlock ∧ some k_ ≠ (.slice Ao23 t191.length co23 : Value).ownBlock ∧ k_ ≠ gb194 ∧ k_ ≠ gb195) (.slice Ao19 t185.length co19) t185) := ⟨by (with_reducible repeat (first | apply N_alloc | apply N_drewN | apply N_drew)); exact N_mono (N_far (p := ⟨gb195, 1, none⟩) (N_far (p := ⟨gb195, 0, none⟩) (N_far (p := ⟨gb194, 3, none⟩) (N_far (p := ⟨gb194, 2, none⟩) (N_far (p := ⟨gb194, 1, none⟩) (N_far (p := ⟨gb194, 0, none⟩) (N_mono (N_mono HO187.out (fun k_ hk => (⟨hk, hk.2.2.2.2.1⟩ : _ ∧ k_ ≠ gb194))) (fun k_ hk => (⟨hk, hk.1.2.2.2.2.2⟩ : _ ∧ k_ ≠ gb195))) (fun _ hk => hk.1.2) (.int .i64 t182)) (fun _ hk => hk.1.2) (.int .i64 t183)) (fun _ hk => hk.1.2) (.int .i64 t184)) (fun _ hk => hk.1.2) (.slice Ao19 t185.length co19)) (fun _ hk => hk.2) (.slice Ao21 t188.length co21)) (fun _ hk => hk.2) (.slice Ao23 t191.length co23)) (fun _ hk => ⟨hk.1.1.2.2.1, ⟨hk.1.1.2.2.2.1, ⟨hk.1.1.1, ⟨hk.1.1.2.1, ⟨hk.1.1.2.2.2.2.1, hk.1.1.2.2.2.2.2⟩⟩⟩⟩⟩)⟩
       have n3_ : Aside0 (Kd.R (Kd.int .i64) 3 ((((((w15.setCell ⟨gb194, 0, none⟩ (.int .i64 t182)).setCell ⟨gb194, 1, none⟩ (.int .i64 t183)).setCell ⟨gb194, 2, none⟩ (.int .i64 t184)).setCell ⟨gb194, 3, none⟩ (.slice Ao19 t185.length co19)).setCell ⟨gb195, 0, none⟩ (.slice Ao21 t188.length co21)).setCell ⟨gb195, 1, none⟩ (.slice Ao23 t191.length co23)) w.heap.size (fun _ => True) (.slice Ao21 t188.length co21) t188) := ⟨by (with_reducible repeat (first | apply R_alloc | apply R_drewN | apply R_drew)); exact R_mono (R_far (p := ⟨gb195, 1, none⟩) (R_far (p := ⟨gb195, 0, none⟩) (R_far (p := ⟨gb194, 3, none⟩) (R_far (p := ⟨gb194, 2, none⟩) (R_far (p := ⟨gb194, 1, none⟩) (R_far (p := ⟨gb194, 0, none⟩) (R_types (R_types HO190.out BK194.out (by decide)) BK195.out (by decide)) (fun _ hk => hk.1.2) (.int .i64 t182)) (fun _ hk => hk.1.2) (.int .i64 t183)) (fun _ hk => hk.1.2) (.int .i64 t184)) (fun _ hk => hk.1.2) (.slice Ao19 t185.length co19)) (fun _ hk => hk.2) (.slice Ao21 t188.length co21)) (fun _ hk => hk.2) (.slice Ao23 t191.length co23)) (fun _ hk => trivial)⟩
       have n4_ : Aside0 (Kd.N (Kd.slice 3 (Kd.int .i64)) 22 ((((((w15.setCell ⟨gb194, 0, none⟩ (.int .i64 t182)).setCell ⟨gb194, 1, none⟩ (.int .i64 t183)).setCell ⟨gb194, 2, none⟩ (.int .i64 t184)).setCell ⟨gb194, 3, none⟩ (.slice Ao19 t185.length co19)).setCell ⟨gb195, 0, none⟩ (.slice Ao21 t188.length co21)).setCell ⟨gb195, 1, none⟩ (.slice Ao23 t191.length co23)) w.heap.size (fun k_ => some k_ ≠ (u8 : Value).ownBlock ∧ some k_ ≠ (u9 : Value).ownBlock ∧ some k_ ≠ (.slice Ao19 t185.length co19 : Value).ownBlock ∧ some k_ ≠ (.slice Ao21 t188.length co21 : Value).ownBlock ∧ k_ ≠ gb194 ∧ k_ ≠ gb195) (.slice Ao23 t191.length co23) t191) := ⟨by (with_reducible repeat (first | apply N_alloc | apply N_drewN | apply N_drew)); exact N_mono (N_far (p := ⟨gb195, 1, none⟩) (N_far (p := ⟨gb195, 0, none⟩) (N_far (p := ⟨gb194, 3, none⟩) (N_far (p := ⟨gb194, 2, none⟩) (N_far (p := ⟨gb194, 1, none⟩) (N_far (p := ⟨gb194, 0, none⟩) (N_mono (N_mono HO193.out (fun k_ hk => (⟨hk, hk.2.2.2.2.1⟩ : _ ∧ k_ ≠ gb194))) (fun k_ hk => (⟨hk, hk.1.2.2.2.2.2⟩ : _ ∧ k_ ≠ gb195))) (fun _ hk => hk.1.2) (.int .i64 t182)) (fun _ hk => hk.1.2) (.int .i64 t183)) (fun _ hk => hk.1.2) (.int .i64 t184)) (fun _ hk => hk.1.2) (.slice Ao19 t185.length co19)) (fun _ hk => hk.2) (.slice Ao21 t188.length co21)) (fun _ hk => hk.2) (.slice Ao23 t191.length co23)) (fun _ hk => ⟨hk.1.1.2.2.1, ⟨hk.1.1.2.2.2.1, ⟨hk.1.1.1, ⟨hk.1.1.2.1, ⟨hk.1.1.2.2.2.2.1, hk.1.1.2.2.2.2.2⟩⟩⟩⟩⟩)⟩
       have n5_ : Aside0 (((((((w15.setCell ⟨gb194, 0, none⟩ (.int .i64 t182)).setCell ⟨gb194, 1, none⟩ (.int .i64 t183)).setCell ⟨gb194, 2, none⟩ (.int .i64 t184)).setCell ⟨gb194, 3, none⟩ (.slice Ao19 t185.length co19)).setCell ⟨gb195, 0, none⟩ (.slice Ao21 t188.length co21)).setCell ⟨gb195, 1, none⟩ (.slice Ao23 t191.length co23)).heap[gb194]? = some (.cells #[.int .i64 t182, .int .i64 t183, .int .i64 t184, .slice Ao19 t185.length co19] 28 (0, 0))) := ⟨by (with_reducible repeat (first | refine blk_drewN ?_ _ | refine blk_drew ?_ | refine blk_alloc ?_ _)); refine blk_far ?_ NB194_195.out _; (with_reducible repeat (first | refine blk_drewN ?_ _ | refine blk_drew ?_ | refine blk_alloc ?_ _)); refine blk_far ?_ NB194_195.out _; (with_reducible repeat (first | refine blk_drewN ?_ _ | refine blk_drew ?_ | refine blk_alloc ?_ _)); refine blk_put (cs := #[.int .i64 t182, .int .i64 t183, .int .i64 t184, .slice none 0 0]) ?_ 3 _ rfl; (with_reducible repeat (first | refine blk_drewN ?_ _ | refine blk_drew ?_ | refine blk_alloc ?_ _)); refine blk_put (cs := #[.int .i64 t182, .int .i64 t183, .int .i64 0, .slice none 0 0]) ?_ 2 _ rfl; (with_reducible repeat (first | refine blk_drewN ?_ _ | refine blk_drew ?_ | refine blk_alloc ?_ _)); refine blk_put (cs := #[.int .i64 t182, .int .i64 0, .int .i64 0, .slice none 0 0]) ?_ 1 _ rfl; (with_reducible repeat (first | refine blk_drewN ?_ _ | refine blk_drew ?_ | refine blk_alloc ?_ _)); refine blk_put (cs := #[.int .i64 0, .int .i64 0, .int .i64 0, .slice none 0 0]) ?_ 0 _ rfl; (with_reducible repeat (first | refine blk_drewN ?_ _ | refine blk_drew ?_ | refine blk_alloc ?_ _)); exact BK194.out⟩
       have n6_ : Aside0 (((((((w15.setCell ⟨gb194, 0, none⟩ (.int .i64 t182)).setCell ⟨gb194, 1, none⟩ (.int .i64 t183)).setCell ⟨gb194, 2, none⟩ (.int .i64 t184)).setCell ⟨gb194, 3, none⟩ (.slice Ao19 t185.length co19)).setCell ⟨gb195, 0, none⟩ (.slice Ao21 t188.length co21)).setCell ⟨gb195, 1, none⟩ (.slice Ao23 t191.length co23)).heap[gb195]? = some (.cells #[.slice Ao21 t188.length co21, .slice Ao23 t191.length co23] 31 (0, 0))) := ⟨by (with_reducible repeat (first | refine blk_drewN ?_ _ | refine blk_drew ?_ | refine blk_alloc ?_ _)); refine blk_put (cs := #[.slice Ao21 t188.length co21, .slice none 0 0]) ?_ 1 _ rfl; (with_reducible repeat (first | refine blk_drewN ?_ _ | refine blk_drew ?_ | refine blk_alloc ?_ _)); refine blk_put (cs := #[.slice none 0 0, .slice none 0 0]) ?_ 0 _ rfl; (with_reducible repeat (first | refine blk_drewN ?_ _ | refine blk_drew ?_ | refine blk_alloc ?_ _)); refine blk_far ?_ NB195_194.out _; (with_reducible repeat (first | refine blk_drewN ?_ _ | refine blk_drew ?_ | refine blk_alloc ?_ _)); refine blk_far ?_ NB195_194.out _; (with_reducible repeat (first | refine blk_drewN ?_ _ | refine blk_drew ?_ | refine blk_alloc ?_ _)); refine blk_far ?_ NB195_194.out _; (with_reducible repeat (first | refine blk_drewN ?_ _ | refine blk_drew ?_ | refine blk_alloc ?_ _)); refine blk_far ?_ NB195_194.out _; (with_reducible repeat (first | refine blk_drewN ?_ _ | refine blk_drew ?_ | refine blk_alloc ?_ _)); exact BK195.out⟩
       have n7_ : Aside0 (Below w.heap.size w ((((((w15.setCell ⟨gb194, 0, none⟩ (.int .i64 t182)).setCell ⟨gb194, 1, none⟩ (.int .i64 t183)).setCell ⟨gb194, 2, none⟩ (.int .i64 t184)).setCell ⟨gb194, 3, none⟩ (.slice Ao19 t185.length co19)).setCell ⟨gb195, 0, none⟩ (.slice Ao21 t188.length co21)).setCell ⟨gb195, 1, none⟩ (.slice Ao23 t191.length co23))) := ⟨by repeat (first | (with_reducible first | exact HB.out | apply below_alloc | apply pw_below_drewN | apply below_drew1 | refine below_set ?_ GE194.out | refine below_set ?_ GE195.out) | exact HB.out)⟩
       (try clear HO_8)
       (try clear HO_9)
       (try clear HO187)
       (try clear HO190)
       (try clear HO193)
       (try clear BK194)
       (try clear BK195)
       (try clear HB)
       generalize ((((((w15.setCell ⟨gb194, 0, none⟩ (.int .i64 t182)).setCell ⟨gb194, 1, none⟩ (.int .i64 t183)).setCell ⟨gb194, 2, none⟩ (.int .i64 t184)).setCell ⟨gb194, 3, none⟩ (.slice Ao19 t185.length co19)).setCell ⟨gb195, 0, none⟩ (.slice Ao21 t188.length co21)).setCell ⟨gb195, 1, none⟩ (.slice Ao23 t191.length co23)) = w25 at n0_ n1_ n2_ n3_ n4_ n5_ n6_ n7_ ⊢
       have HO_8 := n0_
       have HO_9 := n1_
       have HO187 := n2_
       have HO190 := n3_
       have HO193 := n4_
       have BK194 := n5_
       have BK195 := n6_
       have HB := n7_
       clear n0_ n1_ n2_ n3_ n4_ n5_ n6_ n7_
       have hnb26 := NB194_195.out
       have hnc26 := NB195_194.out
       have hcz27_0 : w25.cell? ⟨gb194, 0, none⟩ = some (.int .i64 t182) := (blk_cell BK194.out 0).trans rfl
       have hcz27_1 : w25.cell? ⟨gb194, 1, none⟩ = some (.int .i64 t183) := (blk_cell BK194.out 1).trans rfl
       have hcz27_2 : w25.cell? ⟨gb194, 2, none⟩ = some (.int .i64 t184) := (blk_cell BK194.out 2).trans rfl
       have hcz27_3 : w25.cell? ⟨gb194, 3, none⟩ = some (.slice Ao19 t185.length co19) := (blk_cell BK194.out 3).trans rfl
       have hfz27_0 := blk_frozen BK194.out 0
       have hfz27_1 := blk_frozen BK194.out 1
       have hfz27_2 := blk_frozen BK194.out 2
       have hfz27_3 := blk_frozen BK194.out 3
       try go_wp2_with (first | ((with_reducible refine gate_builtin (b := .append) (xs := #[.tmp 57, .tmp 59]) rfl ?_); at_builtin; refine N_append k28 (w0 := w) w.heap.size rfl (.tmp 57) (.tmp 59) 45 28 (.agg #[(.int .i64 0), (.int .i64 0), (.int .i64 0), (.slice none 0 0)]) 48 rfl Try.underlying45 info28 rfl (by decide) (by omega) u8 x8_1 (⟨t182, t183, t184, t185⟩ : S28) [.int .i64 t182, .int .i64 t183, .int .i64 t184, .slice Ao19 t185.length co19] (fun k_ => some k_ ≠ (u9 : Value).ownBlock ∧ some k_ ≠ (.slice Ao21 t188.length co21 : Value).ownBlock ∧ some k_ ≠ (.slice Ao23 t191.length co23 : Value).ownBlock ∧ k_ ≠ gb194 ∧ k_ ≠ gb195) (fun k_ => ((fun k_ => some k_ ≠ (u9 : Value).ownBlock ∧ some k_ ≠ (.slice Ao21 t188.length co21 : Value).ownBlock ∧ some k_ ≠ (.slice Ao23 t191.length co23 : Value).ownBlock ∧ k_ ≠ gb194 ∧ k_ ≠ gb195)) k_ ∧ some k_ ≠ (u8 : Value).ownBlock) rfl rfl ?aP (fun _ hk => hk) ?aF ?aO ?aB ?aS ?aL ?_; (case aP => exact (k28_mkF _ _ (⟨t182, t183, t184, t185⟩ : S28) (N_reads' (N_mono (ok' := (fun k_ => ((fun k_ => some k_ ≠ (u9 : Value).ownBlock ∧ some k_ ≠ (.slice Ao21 t188.length co21 : Value).ownBlock ∧ some k_ ≠ (.slice Ao23 t191.length co23 : Value).ownBlock ∧ k_ ≠ gb194 ∧ k_ ≠ gb195)) k_ ∧ some k_ ≠ (u8 : Value).ownBlock)) (HO187.out) (fun k_ hk => ⟨⟨hk.2.1, ⟨hk.2.2.1, ⟨hk.2.2.2.1, ⟨hk.2.2.2.2.1, hk.2.2.2.2.2⟩⟩⟩⟩, hk.1⟩))).2.1 (N_F (N_mono (ok' := (fun k_ => ((fun k_ => some k_ ≠ (u9 : Value).ownBlock ∧ some k_ ≠ (.slice Ao21 t188.length co21 : Value).ownBlock ∧ some k_ ≠ (.slice Ao23 t191.length co23 : Value).ownBlock ∧ k_ ≠ gb194 ∧ k_ ≠ gb195)) k_ ∧ some k_ ≠ (u8 : Value).ownBlock)) (HO187.out) (fun k_ hk => ⟨⟨hk.2.1, ⟨hk.2.2.1, ⟨hk.2.2.2.1, ⟨hk.2.2.2.2.1, hk.2.2.2.2.2⟩⟩⟩⟩, hk.1⟩))))); (case aB => exact (by repeat (first | (with_reducible first | exact HB.out | apply below_alloc | apply pw_below_drewN | apply below_drew1 | refine below_set ?_ GE194.out | refine below_set ?_ GE195.out) | exact HB.out))); (case aF => exact (fun k_ hk => ⟨Kd.fresh' (N_lt (by (with_reducible repeat (first | apply N_alloc | apply N_drewN | apply N_drew)); exact HO_9.out)) k_ hk, Kd.fresh' (R_lt (by (with_reducible repeat (first | apply R_alloc | apply R_drewN | apply R_drew)); exact HO190.out)) k_ hk, Kd.fresh' (N_lt (by (with_reducible repeat (first | apply N_alloc | apply N_drewN | apply N_drew)); exact HO193.out)) k_ hk, Kd.freshB (g := gb194) (o := .cells #[.int .i64 t182, .int .i64 t183, .int .i64 t184, .slice Ao19 t185.length co19] 28 (0, 0)) (by (with_reducible repeat (first | refine blk_drewN ?_ _ | refine blk_drew ?_ | refine blk_alloc ?_ _)); exact BK194.out) k_ hk, Kd.freshB (g := gb195) (o := .cells #[.slice Ao21 t188.length co21, .slice Ao23 t191.length co23] 31 (0, 0)) (by (with_reducible repeat (first | refine blk_drewN ?_ _ | refine blk_drew ?_ | refine blk_alloc ?_ _)); exact BK195.out) k_ hk⟩)); (case aO => exact (by (with_reducible repeat (first | apply N_alloc | apply N_drewN | apply N_drew)); exact N_mono HO_8.out (fun _ hk => ⟨hk.1, ⟨hk.2.2.1, ⟨hk.2.2.2.1, ⟨hk.2.2.2.2.1, hk.2.2.2.2.2⟩⟩⟩⟩))); (case aS => exact (below_size (by repeat (first | (with_reducible first | exact HB.out | apply below_alloc | apply pw_below_drewN | apply below_drew1 | refine below_set ?_ GE194.out | refine below_set ?_ GE195.out) | exact HB.out)))); (case aL => have := LMc9.out; omega); intro v197 w28 ho hb hg hat; rw [← Ny196.out] at ho; have n0_ := Am (N_afterv (ok := (fun k_ => some k_ ≠ (.slice Ao19 t185.length co19 : Value).ownBlock ∧ some k_ ≠ (.slice Ao21 t188.length co21 : Value).ownBlock ∧ some k_ ≠ (.slice Ao23 t191.length co23 : Value).ownBlock ∧ k_ ≠ gb194 ∧ k_ ≠ gb195)) (by (with_reducible repeat (first | apply N_alloc | apply N_drewN | apply N_drew)); exact N_mono HO_9.out (fun _ hk => ⟨⟨hk.2.1, ⟨hk.2.2.1, ⟨hk.2.2.2.1, ⟨hk.2.2.2.2.1, hk.2.2.2.2.2⟩⟩⟩⟩, hk.1⟩)) hg hat); have n1_ := Am (R_over' (by (with_reducible repeat (first | apply R_alloc | apply R_drewN | apply R_drew)); exact HO190.out) (N_typed (by (with_reducible repeat (first | apply N_alloc | apply N_drewN | apply N_drew)); exact HO_8.out)) (by decide) hg); have n2_ := Am (N_afterv (ok := (fun k_ => some k_ ≠ (u9 : Value).ownBlock ∧ some k_ ≠ (.slice Ao19 t185.length co19 : Value).ownBlock ∧ some k_ ≠ (.slice Ao21 t188.length co21 : Value).ownBlock ∧ k_ ≠ gb194 ∧ k_ ≠ gb195)) (by (with_reducible repeat (first | apply N_alloc | apply N_drewN | apply N_drew)); exact N_mono HO193.out (fun _ hk => ⟨⟨hk.2.1, ⟨hk.2.2.1, ⟨hk.2.2.2.1, ⟨hk.2.2.2.2.1, hk.2.2.2.2.2⟩⟩⟩⟩, hk.1⟩)) hg hat); have n3_ := Am (blk_grown (g := gb194) (o := .cells #[.int .i64 t182, .int .i64 t183, .int .i64 t184, .slice Ao19 t185.length co19] 28 (0, 0)) (by (with_reducible repeat (first | refine blk_drewN ?_ _ | refine blk_drew ?_ | refine blk_alloc ?_ _)); exact BK194.out) hg (N_away HO_8.out (fun _ hk => hk.2.2.2.2.1))); have n4_ := Am (blk_grown (g := gb195) (o := .cells #[.slice Ao21 t188.length co21, .slice Ao23 t191.length co23] 31 (0, 0)) (by (with_reducible repeat (first | refine blk_drewN ?_ _ | refine blk_drew ?_ | refine blk_alloc ?_ _)); exact BK195.out) hg (N_ne HO_8.out BK195.out (by decide))); have n5_ := Am (hb); have n6_ := Am (ho); clear HO_9; clear HO190; clear HO193; clear BK194; clear BK195; clear HB; clear HO_8; clear HO187; have HO_9 := n0_; have HO190 := n1_; have HO193 := n2_; have BK194 := n3_; have BK195 := n4_; have HB := n5_; have HO198 := n6_; clear n0_ n1_ n2_ n3_ n4_ n5_ n6_; clear ho hb hg hat; have hcz29_0 : w28.cell? ⟨gb195, 0, none⟩ = some (.slice Ao21 t188.length co21) := (blk_cell BK195.out 0).trans rfl; have hcz29_1 : w28.cell? ⟨gb195, 1, none⟩ = some (.slice Ao23 t191.length co23) := (blk_cell BK195.out 1).trans rfl; have hfz29_0 := blk_frozen BK195.out 0; have hfz29_1 := blk_frozen BK195.out 1) | ((with_reducible refine gate_builtin (b := .append) (xs := #[.tmp 61, .tmp 63]) rfl ?_); at_builtin; refine N_append k31 (w0 := w) w.heap.size rfl (.tmp 61) (.tmp 63) 46 31 (.agg #[(.slice none 0 0), (.slice none 0 0)]) 48 rfl Try.underlying46 info31 rfl (by decide) (by omega) u9 x9_1 (⟨t188, t191⟩ : S31) [.slice Ao21 t188.length co21, .slice Ao23 t191.length co23] (fun k_ => some k_ ≠ (v197 : Value).ownBlock ∧ k_ ≠ gb194 ∧ k_ ≠ gb195) (fun k_ => ((fun k_ => some k_ ≠ (v197 : Value).ownBlock ∧ k_ ≠ gb194 ∧ k_ ≠ gb195)) k_ ∧ some k_ ≠ (u9 : Value).ownBlock) rfl rfl ?aP (fun _ hk => hk) ?aF ?aO ?aB ?aS ?aL ?_; (case aP => exact (k31_mkF _ _ (⟨t188, t191⟩ : S31) (R_reads' (R_mono (ok' := (fun k_ => ((fun k_ => some k_ ≠ (v197 : Value).ownBlock ∧ k_ ≠ gb194 ∧ k_ ≠ gb195)) k_ ∧ some k_ ≠ (u9 : Value).ownBlock)) (R_types (R_types (R_apart' (R_apart' (HO190.out) (N_typed HO198.out) (by decide)) (N_typed HO_9.out) (by decide)) BK194.out (by decide)) BK195.out (by decide)) (fun k_ hk => ⟨⟨hk.1.1.1.2, ⟨hk.1.2, hk.2⟩⟩, hk.1.1.2⟩))).2.1 (R_F (R_mono (ok' := (fun k_ => ((fun k_ => some k_ ≠ (v197 : Value).ownBlock ∧ k_ ≠ gb194 ∧ k_ ≠ gb195)) k_ ∧ some k_ ≠ (u9 : Value).ownBlock)) (R_types (R_types (R_apart' (R_apart' (HO190.out) (N_typed HO198.out) (by decide)) (N_typed HO_9.out) (by decide)) BK194.out (by decide)) BK195.out (by decide)) (fun k_ hk => ⟨⟨hk.1.1.1.2, ⟨hk.1.2, hk.2⟩⟩, hk.1.1.2⟩))) (N_reads' (N_mono (ok' := (fun k_ => ((fun k_ => some k_ ≠ (v197 : Value).ownBlock ∧ k_ ≠ gb194 ∧ k_ ≠ gb195)) k_ ∧ some k_ ≠ (u9 : Value).ownBlock)) (HO193.out) (fun k_ hk => ⟨⟨hk.2, ⟨hk.1.2.2.2.1, hk.1.2.2.2.2⟩⟩, hk.1.1⟩))).2.1 (N_F (N_mono (ok' := (fun k_ => ((fun k_ => some k_ ≠ (v197 : Value).ownBlock ∧ k_ ≠ gb194 ∧ k_ ≠ gb195)) k_ ∧ some k_ ≠ (u9 : Value).ownBlock)) (HO193.out) (fun k_ hk => ⟨⟨hk.2, ⟨hk.1.2.2.2.1, hk.1.2.2.2.2⟩⟩, hk.1.1⟩))))); (case aB => exact (by repeat (first | (with_reducible first | exact HB.out | apply below_alloc | apply pw_below_drewN | apply below_drew1 | refine below_set ?_ GE194.out | refine below_set ?_ GE195.out) | exact HB.out))); (case aF => exact (fun k_ hk => ⟨Kd.fresh' (N_lt (by (with_reducible repeat (first | apply N_alloc | apply N_drewN | apply N_drew)); exact HO198.out)) k_ hk, Kd.freshB (g := gb194) (o := .cells #[.int .i64 t182, .int .i64 t183, .int .i64 t184, .slice Ao19 t185.length co19] 28 (0, 0)) (by (with_reducible repeat (first | refine blk_drewN ?_ _ | refine blk_drew ?_ | refine blk_alloc ?_ _)); exact BK194.out) k_ hk, Kd.freshB (g := gb195) (o := .cells #[.slice Ao21 t188.length co21, .slice Ao23 t191.length co23] 31 (0, 0)) (by (with_reducible repeat (first | refine blk_drewN ?_ _ | refine blk_drew ?_ | refine blk_alloc ?_ _)); exact BK195.out) k_ hk⟩)); (case aO => exact (by (with_reducible repeat (first | apply N_alloc | apply N_drewN | apply N_drew)); exact N_mono HO_9.out (fun _ hk => ⟨hk.2, ⟨hk.1.2.2.2.1, hk.1.2.2.2.2⟩⟩))); (case aS => exact (below_size (by repeat (first | (with_reducible first | exact HB.out | apply below_alloc | apply pw_below_drewN | apply below_drew1 | refine below_set ?_ GE194.out | refine below_set ?_ GE195.out) | exact HB.out)))); (case aL => have := LMc10.out; omega); intro v200 w30 ho hb hg hat; rw [← Ny199.out] at ho; have n0_ := Am (blk_grown (g := gb194) (o := .cells #[.int .i64 t182, .int .i64 t183, .int .i64 t184, .slice Ao19 t185.length co19] 28 (0, 0)) (by (with_reducible repeat (first | refine blk_drewN ?_ _ | refine blk_drew ?_ | refine blk_alloc ?_ _)); exact BK194.out) hg (N_ne HO_9.out BK194.out (by decide))); have n1_ := Am (blk_grown (g := gb195) (o := .cells #[.slice Ao21 t188.length co21, .slice Ao23 t191.length co23] 31 (0, 0)) (by (with_reducible repeat (first | refine blk_drewN ?_ _ | refine blk_drew ?_ | refine blk_alloc ?_ _)); exact BK195.out) hg (N_away HO_9.out (fun _ hk => hk.1.2.2.2.2))); have n2_ := Am (N_afterv (ok := (fun k_ => some k_ ≠ (.slice Ao21 t188.length co21 : Value).ownBlock ∧ some k_ ≠ (.slice Ao23 t191.length co23 : Value).ownBlock ∧ k_ ≠ gb194 ∧ k_ ≠ gb195)) (by (with_reducible repeat (first | apply N_alloc | apply N_drewN | apply N_drew)); exact N_mono HO198.out (fun _ hk => ⟨⟨hk.2.1, ⟨hk.2.2.1, ⟨hk.2.2.2.1, hk.2.2.2.2⟩⟩⟩, hk.1⟩)) hg hat); have n3_ := Am (hb); have n4_ := Am (ho); clear BK194; clear BK195; clear HO198; clear HB; clear HO_9; clear HO190; clear HO193; have BK194 := n0_; have BK195 := n1_; have HO198 := n2_; have HB := n3_; have HO201 := n4_; clear n0_ n1_ n2_ n3_ n4_; clear ho hb hg hat))
       go_roundg k1
       case measure => have := HK1.out; omega
       case rel => exact ⟨(y196), (y199), (wrap64 (x10_1 + 1)), (by first | rfl | (simp; done) | (simp [*]; done)), H', ⟨by have := HK1.out; omega⟩, ⟨by (with_reducible repeat (first | apply N_alloc | apply N_drewN | apply N_drew)); exact N_mono HO198.out (fun _ hk => hk.2)⟩, ⟨by (with_reducible repeat (first | apply N_alloc | apply N_drewN | apply N_drew)); exact N_mono HO201.out (fun _ hk => hk.1)⟩, ⟨by repeat (first | (with_reducible first | exact HB.out | apply below_alloc | apply pw_below_drewN | apply below_drew1 | refine below_set ?_ GE194.out | refine below_set ?_ GE195.out) | exact HB.out)⟩⟩
      ·
       rw [if_neg c10] at H
       exact absurd H (by simp)
     ·
      rw [if_neg c9] at H
      exact absurd H (by simp)
    ·
     rw [if_neg c7] at H
     exact absurd H (by simp)
   ·
    rw [if_neg c6] at H
    have c6b0 : decide (x10_1 < (l0.length : Int)) = false := decide_eq_false c6
    clear c6
    replace H := Option.bind_eq_some_iff.mp H
    obtain ⟨⟨t202, t203⟩, A310, H⟩ := H
    replace H : ((sums_Decode.f x8_1 t202).bind fun bt206 => ((fugueref00_EqSums.f k1 x9_1 bt206.1).bind fun t210 => (if t178 = true then (if t203 = 0 then (if bt206.2 = t203 then (fuguelaw09_SumsRounds.j1 k1 a1 a2 x8_1 t202 (!t210)) else (fuguelaw09_SumsRounds.j1 k1 a1 a2 x8_1 t202 true)) else (fuguelaw09_SumsRounds.j1 k1 a1 a2 x8_1 t202 true)) else (fuguelaw09_SumsRounds.j1 k1 a1 a2 x8_1 t202 true)))) = some r := H
    have A31 := Am A310
    clear A310
    replace H := Option.bind_eq_some_iff.mp H
    obtain ⟨⟨t206, t209⟩, A320, H⟩ := H
    replace H : ((fugueref00_EqSums.f k1 x9_1 t206).bind fun t210 => (if t178 = true then (if t203 = 0 then (if t209 = t203 then (fuguelaw09_SumsRounds.j1 k1 a1 a2 x8_1 t202 (!t210)) else (fuguelaw09_SumsRounds.j1 k1 a1 a2 x8_1 t202 true)) else (fuguelaw09_SumsRounds.j1 k1 a1 a2 x8_1 t202 true)) else (fuguelaw09_SumsRounds.j1 k1 a1 a2 x8_1 t202 true))) = some r := H
    have A32 := Am A320
    clear A320
    replace H := Option.bind_eq_some_iff.mp H
    obtain ⟨t210, A330, H⟩ := H
    replace H : (if t178 = true then (if t203 = 0 then (if t209 = t203 then (fuguelaw09_SumsRounds.j1 k1 a1 a2 x8_1 t202 (!t210)) else (fuguelaw09_SumsRounds.j1 k1 a1 a2 x8_1 t202 true)) else (fuguelaw09_SumsRounds.j1 k1 a1 a2 x8_1 t202 true)) else (fuguelaw09_SumsRounds.j1 k1 a1 a2 x8_1 t202 true)) = some r := H
    have A33 := Am A330
    clear A330
    have HC34 := Am H
    clear H
    obtain ⟨Ao35, co35, eo35⟩ := N_slice HO_8.out
    subst eo35
    obtain ⟨Ao36, co36, eo36⟩ := N_slice HO_9.out
    subst eo36
    go_upto_region 13 with (first | ((with_reducible refine gate_callee (f := 16) rfl ?_); refine goesL_ (some 68) rfl rfl Try.func16 (by kernel_rfl) rfl #[.slice Ao35 x8_1.length co35, .slice Ao36 x9_1.length co36] rfl (by (try simp only [List.map_toArray, List.map_cons, List.map_nil]); first | done | rfl | (simp only [List.length_drop, List.length_take]; rfl)) ?_; (with_reducible refine (sums_Encode.calls _ _ x8_1 _ _ x9_1 t202 t203 _ ?side1 ?side2 ?side3 ?side4 A31.out).mono ?_); (case side1 => repeat (first | exact (N_reads' HO_8.out).2.2 | (with_reducible refine C_alloc ?_ _) | (with_reducible refine C_drewN ?_ _) | (with_reducible refine C_drew ?_))); (case side2 => exact (N_reads' HO_8.out).2.1); (case side3 => repeat (first | exact (N_reads' HO_9.out).2.2 | (with_reducible refine C_alloc ?_ _) | (with_reducible refine C_drewN ?_ _) | (with_reducible refine C_drew ?_))); (case side4 => exact (N_reads' HO_9.out).2.1); rintro e w37 ⟨v204, rfl, ho0, hb⟩; refine ⟨_, rfl, ?_⟩; have n0_ := Am (N_elder' (by (with_reducible repeat (first | apply N_alloc | apply N_drewN | apply N_drew)); exact HO_8.out) (R_base ho0) hb); have n1_ := Am (N_elder' (by (with_reducible repeat (first | apply N_alloc | apply N_drewN | apply N_drew)); exact HO_9.out) (R_base ho0) hb); have n2_ := Am (R_lower ho0 (below_size (by repeat (first | (with_reducible first | exact HB.out | apply below_alloc | apply pw_below_drewN | apply below_drew1) | exact HB.out)))); have n3_ := Am (below_step (by repeat (first | (with_reducible first | exact HB.out | apply below_alloc | apply pw_below_drewN | apply below_drew1) | exact HB.out)) hb); clear HO_8; clear HO_9; clear HB; have HO_8 := n0_; have HO_9 := n1_; have HO205 := n2_; have HB := n3_; clear n0_ n1_ n2_ n3_; (try clear hb); (try clear hb2); (try clear hk); (try clear hi); (try clear ho0); obtain ⟨Ao38, co38, eo38⟩ := R_slice HO205.out; subst eo38) | ((with_reducible refine gate_callee (f := 17) rfl ?_); refine goesL_ (some 74) rfl rfl Try.func17 (by kernel_rfl) rfl #[.slice Ao35 x8_1.length co35, .slice Ao38 t202.length co38] rfl (by (try simp only [List.map_toArray, List.map_cons, List.map_nil]); first | done | rfl | (simp only [List.length_drop, List.length_take]; rfl)) ?_; (with_reducible refine (sums_Decode.calls _ _ x8_1 _ _ t202 t206 t209 _ ?side1 ?side2 ?side3 ?side4 A32.out).mono ?_); (case side1 => repeat (first | exact (N_reads' HO_8.out).2.2 | (with_reducible refine C_alloc ?_ _) | (with_reducible refine C_drewN ?_ _) | (with_reducible refine C_drew ?_))); (case side2 => exact (N_reads' HO_8.out).2.1); (case side3 => repeat (first | exact (R_reads' HO205.out).2.2 | (with_reducible refine C_alloc ?_ _) | (with_reducible refine C_drewN ?_ _) | (with_reducible refine C_drew ?_))); (case side4 => exact (R_reads' HO205.out).2.1); rintro e w39 ⟨v207, rfl, ho0, hb⟩; refine ⟨_, rfl, ?_⟩; have n0_ := Am (N_elder' (by (with_reducible repeat (first | apply N_alloc | apply N_drewN | apply N_drew)); exact HO_8.out) (N_base ho0) hb); have n1_ := Am (N_elder' (by (with_reducible repeat (first | apply N_alloc | apply N_drewN | apply N_drew)); exact HO_9.out) (N_base ho0) hb); have n2_ := Am (R_below (by (with_reducible repeat (first | apply R_alloc | apply R_drewN | apply R_drew)); exact HO205.out) hb); have n3_ := Am (N_lower (N_mono (ok' := fun k_ => some k_ ≠ (.slice Ao35 x8_1.length co35 : Value).ownBlock ∧ some k_ ≠ (.slice Ao36 x9_1.length co36 : Value).ownBlock ∧ some k_ ≠ (.slice Ao38 t202.length co38 : Value).ownBlock) ho0 (fun k_ hk_ => ⟨(Kd.fresh' (N_lt (by (with_reducible repeat (first | apply N_alloc | apply N_drewN | apply N_drew)); exact HO_8.out)) k_ hk_), (Kd.fresh' (N_lt (by (with_reducible repeat (first | apply N_alloc | apply N_drewN | apply N_drew)); exact HO_9.out)) k_ hk_), (Kd.fresh' (R_lt (by (with_reducible repeat (first | apply R_alloc | apply R_drewN | apply R_drew)); exact HO205.out)) k_ hk_)⟩)) (below_size (by repeat (first | (with_reducible first | exact HB.out | apply below_alloc | apply pw_below_drewN | apply below_drew1) | exact HB.out)))); have n4_ := Am (below_step (by repeat (first | (with_reducible first | exact HB.out | apply below_alloc | apply pw_below_drewN | apply below_drew1) | exact HB.out)) hb); clear HO_8; clear HO_9; clear HO205; clear HB; have HO_8 := n0_; have HO_9 := n1_; have HO205 := n2_; have HO208 := n3_; have HB := n4_; clear n0_ n1_ n2_ n3_ n4_; (try clear hb); (try clear hb2); (try clear hk); (try clear hi); (try clear ho0); obtain ⟨Ao40, co40, eo40⟩ := N_slice HO208.out; subst eo40) | ((with_reducible refine gate_callee (f := 18) rfl ?_); refine goesL_ (some 79) rfl rfl Try.func18 (by kernel_rfl) rfl #[.slice Ao36 x9_1.length co36, .slice Ao40 t206.length co40] rfl (by (try simp only [List.map_toArray, List.map_cons, List.map_nil]); first | done | rfl | (simp only [List.length_drop, List.length_take]; rfl)) ?_; (with_reducible refine (fugueref00_EqSums.calls k1 _ _ x9_1 _ _ t206 t210 _ ?side1 ?side2 ?side3 ?side4 A33.out).mono ?_); (case side1 => repeat (first | exact (N_reads' HO_9.out).2.2 | (with_reducible refine C_alloc ?_ _) | (with_reducible refine C_drewN ?_ _) | (with_reducible refine C_drew ?_))); (case side2 => exact (N_reads' HO_9.out).2.1); (case side3 => repeat (first | exact (N_reads' HO208.out).2.2 | (with_reducible refine C_alloc ?_ _) | (with_reducible refine C_drewN ?_ _) | (with_reducible refine C_drew ?_))); (case side4 => exact (N_reads' HO208.out).2.1); rintro e w41 ⟨rfl, hb⟩; refine ⟨_, rfl, ?_⟩; have n0_ := Am (N_below (by (with_reducible repeat (first | apply N_alloc | apply N_drewN | apply N_drew)); exact HO_8.out) hb); have n1_ := Am (N_below (by (with_reducible repeat (first | apply N_alloc | apply N_drewN | apply N_drew)); exact HO_9.out) hb); have n2_ := Am (R_below (by (with_reducible repeat (first | apply R_alloc | apply R_drewN | apply R_drew)); exact HO205.out) hb); have n3_ := Am (N_below (by (with_reducible repeat (first | apply N_alloc | apply N_drewN | apply N_drew)); exact HO208.out) hb); have n4_ := Am (below_step (by repeat (first | (with_reducible first | exact HB.out | apply below_alloc | apply pw_below_drewN | apply below_drew1) | exact HB.out)) hb); clear HO_8; clear HO_9; clear HO205; clear HO208; clear HB; have HO_8 := n0_; have HO_9 := n1_; have HO205 := n2_; have HO208 := n3_; have HB := n4_; clear n0_ n1_ n2_ n3_ n4_; (try clear hb); (try clear hb2); (try clear hk); (try clear hi)))
    (try simp only [Act.put, List.setIfInBounds_toArray, List.set_cons_zero, List.set_cons_succ])
    go_cut [94] (fun v94 wc => ∃ (kq : Nat) (x94_33 : Bool), v94 = .bool x94_33 ∧ Aside0 (fuguelaw09_SumsRounds.j1 kq a1 a2 x8_1 t202 x94_33 = some r) ∧ Aside0 (kq ≤ k1) ∧ Aside0 (Kd.N k28 28 wc w.heap.size (fun k_ => some k_ ≠ ((.slice Ao38 t202.length co38) : Value).ownBlock) (.slice Ao35 x8_1.length co35) x8_1) ∧ Aside0 (Kd.R (Kd.int .u8) 5 wc w.heap.size (fun _ => True) (.slice Ao38 t202.length co38) t202) ∧ Aside0 (Below w.heap.size w wc))
    case first =>
     have H := HC34.out
     clear HC34
     by_cases c42 : t178 = true
     ·
      subst c42
      have H1 : (if t203 = 0 then (if t209 = t203 then (fuguelaw09_SumsRounds.j1 k1 a1 a2 x8_1 t202 (!t210)) else (fuguelaw09_SumsRounds.j1 k1 a1 a2 x8_1 t202 true)) else (fuguelaw09_SumsRounds.j1 k1 a1 a2 x8_1 t202 true)) = some r := by rw [if_pos rfl] at H; exact H
      clear H
      have H := H1
      clear H1
      by_cases c43 : t203 = 0
      ·
       rw [if_pos c43] at H
       have c43b0 : (t203 == 0) = true := beq_iff_eq.mpr c43
       have c43b1 : (t203 != 0) = false := bne_eq_false_iff_eq.mpr c43
       clear c43
       (first | rw [c43b0] | (simp only [i64_w, i32_w]; rw [c43b0]) | skip)
       by_cases c44 : t209 = t203
       ·
        rw [if_pos c44] at H
        have c44b0 : (t209 == t203) = true := beq_iff_eq.mpr c44
        have c44b1 : (t209 != t203) = false := bne_eq_false_iff_eq.mpr c44
        clear c44
        have H' := Am H
        clear H
        go_wp2
        go_meet
        case rel => exact ⟨_, (!t210), (by first | rfl | (simp; done) | (simp [*]; done)), H', ⟨by have := HK1.out; first | omega | exact Nat.le_refl _⟩, ⟨by (with_reducible repeat (first | apply N_alloc | apply N_drewN | apply N_drew)); exact N_mono HO_8.out (fun _ hk => hk.1.2)⟩, ⟨by (with_reducible repeat (first | apply R_alloc | apply R_drewN | apply R_drew)); exact HO205.out⟩, ⟨by repeat (first | (with_reducible first | exact HB.out | apply below_alloc | apply pw_below_drewN | apply below_drew1) | exact HB.out)⟩⟩
       ·
        rw [if_neg c44] at H
        have c44b0 : (t209 == t203) = false := beq_eq_false_iff_ne.mpr c44
        have c44b1 : (t209 != t203) = true := bne_iff_ne.mpr c44
        have H' := Am H
        clear H
        go_wp2
        go_meet
        case rel => exact ⟨_, (true), (by first | rfl | (simp; done) | (simp [*]; done)), H', ⟨by have := HK1.out; first | omega | exact Nat.le_refl _⟩, ⟨by (with_reducible repeat (first | apply N_alloc | apply N_drewN | apply N_drew)); exact N_mono HO_8.out (fun _ hk => hk.1.2)⟩, ⟨by (with_reducible repeat (first | apply R_alloc | apply R_drewN | apply R_drew)); exact HO205.out⟩, ⟨by repeat (first | (with_reducible first | exact HB.out | apply below_alloc | apply pw_below_drewN | apply below_drew1) | exact HB.out)⟩⟩
      ·
       rw [if_neg c43] at H
       have c43b0 : (t203 == 0) = false := beq_eq_false_iff_ne.mpr c43
       have c43b1 : (t203 != 0) = true := bne_iff_ne.mpr c43
       (first | rw [c43b0] | (simp only [i64_w, i32_w]; rw [c43b0]) | skip)
       have H' := Am H
       clear H
       go_wp2
       go_meet
       case rel => exact ⟨_, (true), (by first | rfl | (simp; done) | (simp [*]; done)), H', ⟨by have := HK1.out; first | omega | exact Nat.le_refl _⟩, ⟨by (with_reducible repeat (first | apply N_alloc | apply N_drewN | apply N_drew)); exact N_mono HO_8.out (fun _ hk => hk.1.2)⟩, ⟨by (with_reducible repeat (first | apply R_alloc | apply R_drewN | apply R_drew)); exact HO205.out⟩, ⟨by repeat (first | (with_reducible first | exact HB.out | apply below_alloc | apply pw_below_drewN | apply below_drew1) | exact HB.out)⟩⟩
     ·
      replace c42 := Bool.eq_false_iff.mpr c42
      subst c42
      have H1 : (fuguelaw09_SumsRounds.j1 k1 a1 a2 x8_1 t202 true) = some r := by rw [if_neg (show ¬ (false = true) by decide)] at H; exact H
      clear H
      have H := H1
      clear H1
      have H' := Am H
      clear H
      go_wp2
      go_meet
      case rel => exact ⟨_, (true), (by first | rfl | (simp; done) | (simp [*]; done)), H', ⟨by have := HK1.out; first | omega | exact Nat.le_refl _⟩, ⟨by (with_reducible repeat (first | apply N_alloc | apply N_drewN | apply N_drew)); exact N_mono HO_8.out (fun _ hk => hk.1.2)⟩, ⟨by (with_reducible repeat (first | apply R_alloc | apply R_drewN | apply R_drew)); exact HO205.out⟩, ⟨by repeat (first | (with_reducible first | exact HB.out | apply below_alloc | apply pw_below_drewN | apply below_drew1) | exact HB.out)⟩⟩
    case rest =>
     clear HC34
     try clear c1
     try clear c2
     try clear p2
     try clear c4
     try clear c6
     try clear c6b0
     try clear p6
     try clear c7
     try clear c9
     try clear c10
     try clear c16
     try clear c17
     try clear c18
     try clear c26
     try clear c42
     try clear c43
     try clear c43b0
     try clear c43b1
     try clear c44
     try clear c44b0
     try clear c44b1
     try clear hcz27_0
     try clear hcz27_1
     try clear hcz27_2
     try clear hcz27_3
     try clear hcz29_0
     try clear hcz29_1
     try clear hfz27_0
     try clear hfz27_1
     try clear hfz27_2
     try clear hfz27_3
     try clear hfz29_0
     try clear hfz29_1
     obtain ⟨kq, x94_33, rfl, HA, HJ33, HO_8, HO_13, HB⟩ := hcut
     cases kq with
     | zero => exact absurd HA.out (by simp [fuguelaw09_SumsRounds.j1])
     | succ kj33 =>
      have H := HA.out
      clear HA
      simp only [fuguelaw09_SumsRounds.j1] at H
      by_cases c45 : x94_33 = true
      ·
       subst c45
       have H1 : (some false) = some r := by rw [if_pos rfl] at H; exact H
       clear H
       have H := H1
       clear H1
       obtain rfl := Option.some.inj H
       go_wp2
       go_ret
       exact ⟨by first | rfl | (simp [errW_none, errW_some] <;> rfl) | (simp [*, errW_none, errW_some] <;> rfl), by repeat (first | (with_reducible first | exact HB.out | apply below_alloc | apply pw_below_drewN | apply below_drew1) | exact HB.out)⟩
      ·
       replace c45 := Bool.eq_false_iff.mpr c45
       subst c45
       have H1 : ((fugueref00_CopyBytes.f kj33 t202).bind fun t211 => (if t211.length < 140737488355328 then ((sums_Decode.f x8_1 (t211 ++ [a2])).bind fun bt217 => (if bt217.2 = 90 then (if (t202.length : Int) = 0 then (some true) else (if 0 ≤ (wrap64 ((t202.length : Int) - 1)) then (if (wrap64 ((t202.length : Int) - 1)) ≤ (t202.length : Int) then ((sums_Decode.f x8_1 (t202.take ((wrap64 ((t202.length : Int) - 1)) : Int).toNat)).bind fun bt226 => ((fugueref00_CopyBytes.f kj33 t202).bind fun t230 => ((fuguelaw09_mod.f a1 (t230.length : Int)).bind fun t233 => (if 0 ≤ t233 then (if t233 < (t230.length : Int) then ((some (t230.set (t233 : Int).toNat a2 : List Int)).bind fun y234 => ((sums_Decode.f x8_1 y234).bind fun bt235 => (if a2 ≤ 3 then (fuguelaw09_SumsRounds.j2 kj33 x8_1 bt226.2 y234 bt235.1 bt235.2 true) else (fuguelaw09_SumsRounds.j2 kj33 x8_1 bt226.2 y234 bt235.1 bt235.2 (a2 == 9))))) else (none)) else (none))))) else (none)) else (none))) else (some false))) else (none))) = some r := by rw [if_neg (show ¬ (false = true) by decide)] at H; exact H
       clear H
       have H := H1
       clear H1
       replace H := Option.bind_eq_some_iff.mp H
       obtain ⟨t211, A460, H⟩ := H
       replace H : (if t211.length < 140737488355328 then ((sums_Decode.f x8_1 (t211 ++ [a2])).bind fun bt217 => (if bt217.2 = 90 then (if (t202.length : Int) = 0 then (some true) else (if 0 ≤ (wrap64 ((t202.length : Int) - 1)) then (if (wrap64 ((t202.length : Int) - 1)) ≤ (t202.length : Int) then ((sums_Decode.f x8_1 (t202.take ((wrap64 ((t202.length : Int) - 1)) : Int).toNat)).bind fun bt226 => ((fugueref00_CopyBytes.f kj33 t202).bind fun t230 => ((fuguelaw09_mod.f a1 (t230.length : Int)).bind fun t233 => (if 0 ≤ t233 then (if t233 < (t230.length : Int) then ((some (t230.set (t233 : Int).toNat a2 : List Int)).bind fun y234 => ((sums_Decode.f x8_1 y234).bind fun bt235 => (if a2 ≤ 3 then (fuguelaw09_SumsRounds.j2 kj33 x8_1 bt226.2 y234 bt235.1 bt235.2 true) else (fuguelaw09_SumsRounds.j2 kj33 x8_1 bt226.2 y234 bt235.1 bt235.2 (a2 == 9))))) else (none)) else (none))))) else (none)) else (none))) else (some false))) else (none)) = some r := H
       have A46 := Am A460
       clear A460
       by_cases c47 : t211.length < 140737488355328
       ·
        rw [if_pos c47] at H
        have LMc47 := Am c47
        clear c47
        obtain ⟨y214, hy214⟩ : ∃ y_ : List Int, y_ = (t211 ++ [a2]) := ⟨_, rfl⟩
        replace H : ((sums_Decode.f x8_1 y214).bind fun bt217 => (if bt217.2 = 90 then (if (t202.length : Int) = 0 then (some true) else (if 0 ≤ (wrap64 ((t202.length : Int) - 1)) then (if (wrap64 ((t202.length : Int) - 1)) ≤ (t202.length : Int) then ((sums_Decode.f x8_1 (t202.take ((wrap64 ((t202.length : Int) - 1)) : Int).toNat)).bind fun bt226 => ((fugueref00_CopyBytes.f kj33 t202).bind fun t230 => ((fuguelaw09_mod.f a1 (t230.length : Int)).bind fun t233 => (if 0 ≤ t233 then (if t233 < (t230.length : Int) then ((some (t230.set (t233 : Int).toNat a2 : List Int)).bind fun y234 => ((sums_Decode.f x8_1 y234).bind fun bt235 => (if a2 ≤ 3 then (fuguelaw09_SumsRounds.j2 kj33 x8_1 bt226.2 y234 bt235.1 bt235.2 true) else (fuguelaw09_SumsRounds.j2 kj33 x8_1 bt226.2 y234 bt235.1 bt235.2 (a2 == 9))))) else (none)) else (none))))) else (none)) else (none))) else (some false))) = some r := by first | (rw [hy214]; with_reducible exact H) | (have H2_ := (Option.bind_some _ _).symm.trans H; rw [hy214]; with_reducible exact H2_) | (have H2_ := (Option.bind_some _ _).symm.trans H; with_reducible exact H2_) | with_reducible exact H | (rw [hy214]; exact H) | exact H
        have Ny214 := Am hy214
        clear hy214
        replace H := Option.bind_eq_some_iff.mp H
        obtain ⟨⟨t217, t220⟩, A480, H⟩ := H
        replace H : (if t220 = 90 then (if (t202.length : Int) = 0 then (some true) else (if 0 ≤ (wrap64 ((t202.length : Int) - 1)) then (if (wrap64 ((t202.length : Int) - 1)) ≤ (t202.length : Int) then ((sums_Decode.f x8_1 (t202.take ((wrap64 ((t202.length : Int) - 1)) : Int).toNat)).bind fun bt226 => ((fugueref00_CopyBytes.f kj33 t202).bind fun t230 => ((fuguelaw09_mod.f a1 (t230.length : Int)).bind fun t233 => (if 0 ≤ t233 then (if t233 < (t230.length : Int) then ((some (t230.set (t233 : Int).toNat a2 : List Int)).bind fun y234 => ((sums_Decode.f x8_1 y234).bind fun bt235 => (if a2 ≤ 3 then (fuguelaw09_SumsRounds.j2 kj33 x8_1 bt226.2 y234 bt235.1 bt235.2 true) else (fuguelaw09_SumsRounds.j2 kj33 x8_1 bt226.2 y234 bt235.1 bt235.2 (a2 == 9))))) else (none)) else (none))))) else (none)) else (none))) else (some false)) = some r := H
        have A48 := Am A480
        clear A480
        by_cases c49 : t220 = 90
        ·
         rw [if_pos c49] at H
         have c49b0 : (t220 == 90) = true := beq_iff_eq.mpr c49
         have c49b1 : (t220 != 90) = false := bne_eq_false_iff_eq.mpr c49
         clear c49
         by_cases c50 : (t202.length : Int) = 0
         ·
          rw [if_pos c50] at H
          have c50b0 : ((t202.length : Int) == 0) = true := beq_iff_eq.mpr c50
          have c50b1 : ((t202.length : Int) != 0) = false := bne_eq_false_iff_eq.mpr c50
          clear c50
          obtain rfl := Option.some.inj H
          go_wp2_with (first | ((with_reducible refine gate_callee (f := 19) rfl ?_); refine goesL_ (some 96) rfl rfl Try.func19 (by kernel_rfl) rfl #[.slice Ao38 t202.length co38] rfl (by (try simp only [List.map_toArray, List.map_cons, List.map_nil]); first | done | rfl | (simp only [List.length_drop, List.length_take]; rfl)) ?_; (with_reducible refine (fugueref00_CopyBytes.calls kj33 _ _ t202 t211 _ ?side1 ?side2 A46.out).mono ?_); (case side1 => repeat (first | exact (R_reads' HO_13.out).2.2 | (with_reducible refine C_alloc ?_ _) | (with_reducible refine C_drewN ?_ _) | (with_reducible refine C_drew ?_))); (case side2 => exact (R_reads' HO_13.out).2.1); rintro e w51 ⟨v212, rfl, ho0, hb⟩; refine ⟨_, rfl, ?_⟩; have n0_ := Am (N_elder' (by (with_reducible repeat (first | apply N_alloc | apply N_drewN | apply N_drew)); exact HO_8.out) (R_base ho0) hb); have n1_ := Am (R_elder' (by (with_reducible repeat (first | apply R_alloc | apply R_drewN | apply R_drew)); exact HO_13.out) (R_base ho0) hb); have n2_ := Am (R_lower (R_new' ho0 (R_lt (by (with_reducible repeat (first | apply R_alloc | apply R_drewN | apply R_drew)); exact HO_13.out))) (below_size (by repeat (first | (with_reducible first | exact HB.out | apply below_alloc | apply pw_below_drewN | apply below_drew1) | exact HB.out)))); have n3_ := Am (below_step (by repeat (first | (with_reducible first | exact HB.out | apply below_alloc | apply pw_below_drewN | apply below_drew1) | exact HB.out)) hb); clear HO_8; clear HO_13; clear HB; have HO_8 := n0_; have HO_13 := n1_; have HO213 := n2_; have HB := n3_; clear n0_ n1_ n2_ n3_; (try clear hb); (try clear hb2); (try clear hk); (try clear hi); (try clear ho0)) | ((with_reducible refine gate_builtin (b := .append) (xs := #[.tmp 96, .tmp 98]) rfl ?_); at_builtin; refine R_append (Kd.int .u8) (w0 := w) w.heap.size rfl (.tmp 96) (.tmp 98) 42 5 (.int .u8 0) 1 rfl Try.underlying42 info5 rfl (by decide) (by omega) v212 t211 a2 [.int .u8 a2] (fun k_ => some k_ ≠ (.slice Ao38 t202.length co38 : Value).ownBlock) (fun _ => False) rfl rfl ?aP (fun _ hk => hk.elim) ?aF ?aO ?aB ?aS ?aL ?_; (case aP => exact rfl); (case aB => exact (by repeat (first | (with_reducible first | exact HB.out | apply below_alloc | apply pw_below_drewN | apply below_drew1) | exact HB.out))); (case aF => exact (fun k_ hk => Kd.fresh' (R_lt (by (with_reducible repeat (first | apply R_alloc | apply R_drewN | apply R_drew)); exact HO_13.out)) k_ hk)); (case aO => exact (by (with_reducible repeat (first | apply R_alloc | apply R_drewN | apply R_drew)); exact R_mono HO213.out (fun _ hk => hk.2))); (case aS => exact (below_size (by repeat (first | (with_reducible first | exact HB.out | apply below_alloc | apply pw_below_drewN | apply below_drew1) | exact HB.out)))); (case aL => have := LMc47.out; omega); intro v215 w52 ho hb hg hat; rw [← Ny214.out] at ho; have n0_ := Am (N_afterv (ok := (fun k_ => some k_ ≠ (.slice Ao38 t202.length co38 : Value).ownBlock)) (by (with_reducible repeat (first | apply N_alloc | apply N_drewN | apply N_drew)); exact HO_8.out) hg hat); have n1_ := Am (R_after (ok := (fun _ => True)) (by (with_reducible repeat (first | apply R_alloc | apply R_drewN | apply R_drew)); exact HO_13.out) hg hat); have n2_ := Am (hb); have n3_ := Am (ho); clear HO_8; clear HO_13; clear HB; clear HO213; have HO_8 := n0_; have HO_13 := n1_; have HB := n2_; have HO216 := n3_; clear n0_ n1_ n2_ n3_; clear ho hb hg hat; obtain ⟨Ao53, co53, eo53⟩ := R_slice HO216.out; subst eo53) | ((with_reducible refine gate_callee (f := 17) rfl ?_); refine goesL_ (some 103) rfl rfl Try.func17 (by kernel_rfl) rfl #[.slice Ao35 x8_1.length co35, .slice Ao53 y214.length co53] rfl (by (try simp only [List.map_toArray, List.map_cons, List.map_nil]); first | done | rfl | (simp only [List.length_drop, List.length_take]; rfl)) ?_; (with_reducible refine (sums_Decode.calls _ _ x8_1 _ _ y214 t217 t220 _ ?side1 ?side2 ?side3 ?side4 A48.out).mono ?_); (case side1 => repeat (first | exact (N_reads' HO_8.out).2.2 | (with_reducible refine C_alloc ?_ _) | (with_reducible refine C_drewN ?_ _) | (with_reducible refine C_drew ?_))); (case side2 => exact (N_reads' HO_8.out).2.1); (case side3 => repeat (first | exact (R_reads' HO216.out).2.2 | (with_reducible refine C_alloc ?_ _) | (with_reducible refine C_drewN ?_ _) | (with_reducible refine C_drew ?_))); (case side4 => exact (R_reads' HO216.out).2.1); rintro e w54 ⟨v218, rfl, ho0, hb⟩; refine ⟨_, rfl, ?_⟩; have n0_ := Am (N_elder' (by (with_reducible repeat (first | apply N_alloc | apply N_drewN | apply N_drew)); exact HO_8.out) (N_base ho0) hb); have n1_ := Am (R_below (by (with_reducible repeat (first | apply R_alloc | apply R_drewN | apply R_drew)); exact HO_13.out) hb); have n2_ := Am (R_below (by (with_reducible repeat (first | apply R_alloc | apply R_drewN | apply R_drew)); exact HO216.out) hb); have n3_ := Am (N_lower (N_mono (ok' := fun k_ => some k_ ≠ (.slice Ao35 x8_1.length co35 : Value).ownBlock ∧ some k_ ≠ (.slice Ao38 t202.length co38 : Value).ownBlock ∧ some k_ ≠ (.slice Ao53 y214.length co53 : Value).ownBlock) ho0 (fun k_ hk_ => ⟨(Kd.fresh' (N_lt (by (with_reducible repeat (first | apply N_alloc | apply N_drewN | apply N_drew)); exact HO_8.out)) k_ hk_), (Kd.fresh' (R_lt (by (with_reducible repeat (first | apply R_alloc | apply R_drewN | apply R_drew)); exact HO_13.out)) k_ hk_), (Kd.fresh' (R_lt (by (with_reducible repeat (first | apply R_alloc | apply R_drewN | apply R_drew)); exact HO216.out)) k_ hk_)⟩)) (below_size (by repeat (first | (with_reducible first | exact HB.out | apply below_alloc | apply pw_below_drewN | apply below_drew1) | exact HB.out)))); have n4_ := Am (below_step (by repeat (first | (with_reducible first | exact HB.out | apply below_alloc | apply pw_below_drewN | apply below_drew1) | exact HB.out)) hb); clear HO_8; clear HO_13; clear HO216; clear HB; have HO_8 := n0_; have HO_13 := n1_; have HO216 := n2_; have HO219 := n3_; have HB := n4_; clear n0_ n1_ n2_ n3_ n4_; (try clear hb); (try clear hb2); (try clear hk); (try clear hi); (try clear ho0)))
          go_ret
          exact ⟨by first | rfl | (simp [errW_none, errW_some] <;> rfl) | (simp [*, errW_none, errW_some] <;> rfl), by repeat (first | (with_reducible first | exact HB.out | apply below_alloc | apply pw_below_drewN | apply below_drew1) | exact HB.out)⟩
         ·
          rw [if_neg c50] at H
          have c50b0 : ((t202.length : Int) == 0) = false := beq_eq_false_iff_ne.mpr c50
          have c50b1 : ((t202.length : Int) != 0) = true := bne_iff_ne.mpr c50
          have c50b2 : ¬ (t202 = []) := fun h_ => c50 (by rw [h_]; rfl)
          obtain ⟨ji55, hji55⟩ : ∃ j_ : Int, (wrap64 ((t202.length : Int) - 1)) = j_ := ⟨_, rfl⟩
          replace H : (if 0 ≤ (ji55) then (if (ji55) ≤ (t202.length : Int) then ((sums_Decode.f x8_1 (t202.take ((ji55) : Int).toNat)).bind fun bt226 => ((fugueref00_CopyBytes.f kj33 t202).bind fun t230 => ((fuguelaw09_mod.f a1 (t230.length : Int)).bind fun t233 => (if 0 ≤ t233 then (if t233 < (t230.length : Int) then ((some (t230.set (t233 : Int).toNat a2 : List Int)).bind fun y234 => ((sums_Decode.f x8_1 y234).bind fun bt235 => (if a2 ≤ 3 then (fuguelaw09_SumsRounds.j2 kj33 x8_1 bt226.2 y234 bt235.1 bt235.2 true) else (fuguelaw09_SumsRounds.j2 kj33 x8_1 bt226.2 y234 bt235.1 bt235.2 (a2 == 9))))) else (none)) else (none))))) else (none)) else (none)) = some r := by first | (rw [hji55] at H; exact H) | (simp only [hji55] at H ⊢; exact H)
          (try rw [hji55] at A46)
          (try rw [hji55] at A48)
          have hji55w : (IntKind.i64.wrap ((t202.length : Int) - 1)) = ji55 := (i64_w _).trans hji55
          by_cases c56 : 0 ≤ (ji55)
          ·
           rw [if_pos c56] at H
           have c56b0 := eq_true c56
           have c56b1 : decide (0 ≤ (ji55)) = true := decide_eq_true c56
           clear c56
           by_cases c57 : (ji55) ≤ (t202.length : Int)
           ·
            rw [if_pos c57] at H
            have c57b0 := eq_true c57
            have c57b1 : decide ((ji55) ≤ (t202.length : Int)) = true := decide_eq_true c57
            clear c57
            obtain ⟨y221, hy221⟩ : ∃ y_ : List Int, y_ = (t202.take ((ji55) : Int).toNat) := ⟨_, rfl⟩
            replace H : ((sums_Decode.f x8_1 y221).bind fun bt226 => ((fugueref00_CopyBytes.f kj33 t202).bind fun t230 => ((fuguelaw09_mod.f a1 (t230.length : Int)).bind fun t233 => (if 0 ≤ t233 then (if t233 < (t230.length : Int) then ((some (t230.set (t233 : Int).toNat a2 : List Int)).bind fun y234 => ((sums_Decode.f x8_1 y234).bind fun bt235 => (if a2 ≤ 3 then (fuguelaw09_SumsRounds.j2 kj33 x8_1 bt226.2 y234 bt235.1 bt235.2 true) else (fuguelaw09_SumsRounds.j2 kj33 x8_1 bt226.2 y234 bt235.1 bt235.2 (a2 == 9))))) else (none)) else (none))))) = some r := by first | (rw [hy221]; with_reducible exact H) | (have H2_ := (Option.bind_some _ _).symm.trans H; rw [hy221]; with_reducible exact H2_) | (have H2_ := (Option.bind_some _ _).symm.trans H; with_reducible exact H2_) | with_reducible exact H | (rw [hy221]; exact H) | exact H
            have Ny221 := Am hy221
            clear hy221
            replace H := Option.bind_eq_some_iff.mp H
            obtain ⟨⟨t226, t229⟩, A580, H⟩ := H
            replace H : ((fugueref00_CopyBytes.f kj33 t202).bind fun t230 => ((fuguelaw09_mod.f a1 (t230.length : Int)).bind fun t233 => (if 0 ≤ t233 then (if t233 < (t230.length : Int) then ((some (t230.set (t233 : Int).toNat a2 : List Int)).bind fun y234 => ((sums_Decode.f x8_1 y234).bind fun bt235 => (if a2 ≤ 3 then (fuguelaw09_SumsRounds.j2 kj33 x8_1 t229 y234 bt235.1 bt235.2 true) else (fuguelaw09_SumsRounds.j2 kj33 x8_1 t229 y234 bt235.1 bt235.2 (a2 == 9))))) else (none)) else (none)))) = some r := H
            have A58 := Am A580
            clear A580
            replace H := Option.bind_eq_some_iff.mp H
            obtain ⟨t230, A590, H⟩ := H
            replace H : ((fuguelaw09_mod.f a1 (t230.length : Int)).bind fun t233 => (if 0 ≤ t233 then (if t233 < (t230.length : Int) then ((some (t230.set (t233 : Int).toNat a2 : List Int)).bind fun y234 => ((sums_Decode.f x8_1 y234).bind fun bt235 => (if a2 ≤ 3 then (fuguelaw09_SumsRounds.j2 kj33 x8_1 t229 y234 bt235.1 bt235.2 true) else (fuguelaw09_SumsRounds.j2 kj33 x8_1 t229 y234 bt235.1 bt235.2 (a2 == 9))))) else (none)) else (none))) = some r := H
            have A59 := Am A590
            clear A590
            replace H := Option.bind_eq_some_iff.mp H
            obtain ⟨t233, A600, H⟩ := H
            replace H : (if 0 ≤ t233 then (if t233 < (t230.length : Int) then ((some (t230.set (t233 : Int).toNat a2 : List Int)).bind fun y234 => ((sums_Decode.f x8_1 y234).bind fun bt235 => (if a2 ≤ 3 then (fuguelaw09_SumsRounds.j2 kj33 x8_1 t229 y234 bt235.1 bt235.2 true) else (fuguelaw09_SumsRounds.j2 kj33 x8_1 t229 y234 bt235.1 bt235.2 (a2 == 9))))) else (none)) else (none)) = some r := H
            have A60 := Am A600
            clear A600
            by_cases c61 : 0 ≤ t233
            ·
             rw [if_pos c61] at H
             have c61b0 : decide (0 ≤ t233) = true := decide_eq_true c61
             clear c61
             by_cases c62 : t233 < (t230.length : Int)
             ·
              rw [if_pos c62] at H
              have c62b0 : decide (t233 < (t230.length : Int)) = true := decide_eq_true c62
              clear c62
              obtain ⟨y234, hy234⟩ : ∃ y_ : List Int, y_ = (t230.set (t233 : Int).toNat a2) := ⟨_, rfl⟩
              replace H : ((sums_Decode.f x8_1 y234).bind fun bt235 => (if a2 ≤ 3 then (fuguelaw09_SumsRounds.j2 kj33 x8_1 t229 y234 bt235.1 bt235.2 true) else (fuguelaw09_SumsRounds.j2 kj33 x8_1 t229 y234 bt235.1 bt235.2 (a2 == 9)))) = some r := by first | (rw [hy234]; with_reducible exact H) | (have H2_ := (Option.bind_some _ _).symm.trans H; rw [hy234]; with_reducible exact H2_) | (have H2_ := (Option.bind_some _ _).symm.trans H; with_reducible exact H2_) | with_reducible exact H | (rw [hy234]; exact H) | exact H
              have Ny234 := Am hy234
              clear hy234
              replace H := Option.bind_eq_some_iff.mp H
              obtain ⟨⟨t235, t238⟩, A640, H⟩ := H
              replace H : (if a2 ≤ 3 then (fuguelaw09_SumsRounds.j2 kj33 x8_1 t229 y234 t235 t238 true) else (fuguelaw09_SumsRounds.j2 kj33 x8_1 t229 y234 t235 t238 (a2 == 9))) = some r := H
              have A64 := Am A640
              clear A640
              have HC65 := Am H
              clear H
              go_upto_region 26 with (first | ((with_reducible refine gate_callee (f := 19) rfl ?_); refine goesL_ (some 96) rfl rfl Try.func19 (by kernel_rfl) rfl #[.slice Ao38 t202.length co38] rfl (by (try simp only [List.map_toArray, List.map_cons, List.map_nil]); first | done | rfl | (simp only [List.length_drop, List.length_take]; rfl)) ?_; (with_reducible refine (fugueref00_CopyBytes.calls kj33 _ _ t202 t211 _ ?side1 ?side2 A46.out).mono ?_); (case side1 => repeat (first | exact (R_reads' HO_13.out).2.2 | (with_reducible refine C_alloc ?_ _) | (with_reducible refine C_drewN ?_ _) | (with_reducible refine C_drew ?_))); (case side2 => exact (R_reads' HO_13.out).2.1); rintro e w66 ⟨v212, rfl, ho0, hb⟩; refine ⟨_, rfl, ?_⟩; have n0_ := Am (N_elder' (by (with_reducible repeat (first | apply N_alloc | apply N_drewN | apply N_drew)); exact HO_8.out) (R_base ho0) hb); have n1_ := Am (R_elder' (by (with_reducible repeat (first | apply R_alloc | apply R_drewN | apply R_drew)); exact HO_13.out) (R_base ho0) hb); have n2_ := Am (R_lower (R_new' ho0 (R_lt (by (with_reducible repeat (first | apply R_alloc | apply R_drewN | apply R_drew)); exact HO_13.out))) (below_size (by repeat (first | (with_reducible first | exact HB.out | apply below_alloc | apply pw_below_drewN | apply below_drew1) | exact HB.out)))); have n3_ := Am (below_step (by repeat (first | (with_reducible first | exact HB.out | apply below_alloc | apply pw_below_drewN | apply below_drew1) | exact HB.out)) hb); clear HO_8; clear HO_13; clear HB; have HO_8 := n0_; have HO_13 := n1_; have HO213 := n2_; have HB := n3_; clear n0_ n1_ n2_ n3_; (try clear hb); (try clear hb2); (try clear hk); (try clear hi); (try clear ho0)) | ((with_reducible refine gate_builtin (b := .append) (xs := #[.tmp 96, .tmp 98]) rfl ?_); at_builtin; refine R_append (Kd.int .u8) (w0 := w) w.heap.size rfl (.tmp 96) (.tmp 98) 42 5 (.int .u8 0) 1 rfl Try.underlying42 info5 rfl (by decide) (by omega) v212 t211 a2 [.int .u8 a2] (fun k_ => some k_ ≠ (.slice Ao38 t202.length co38 : Value).ownBlock) (fun _ => False) rfl rfl ?aP (fun _ hk => hk.elim) ?aF ?aO ?aB ?aS ?aL ?_; (case aP => exact rfl); (case aB => exact (by repeat (first | (with_reducible first | exact HB.out | apply below_alloc | apply pw_below_drewN | apply below_drew1) | exact HB.out))); (case aF => exact (fun k_ hk => Kd.fresh' (R_lt (by (with_reducible repeat (first | apply R_alloc | apply R_drewN | apply R_drew)); exact HO_13.out)) k_ hk)); (case aO => exact (by (with_reducible repeat (first | apply R_alloc | apply R_drewN | apply R_drew)); exact R_mono HO213.out (fun _ hk => hk.2))); (case aS => exact (below_size (by repeat (first | (with_reducible first | exact HB.out | apply below_alloc | apply pw_below_drewN | apply below_drew1) | exact HB.out)))); (case aL => have := LMc47.out; omega); intro v215 w67 ho hb hg hat; rw [← Ny214.out] at ho; have n0_ := Am (N_afterv (ok := (fun k_ => some k_ ≠ (.slice Ao38 t202.length co38 : Value).ownBlock)) (by (with_reducible repeat (first | apply N_alloc | apply N_drewN | apply N_drew)); exact HO_8.out) hg hat); have n1_ := Am (R_after (ok := (fun _ => True)) (by (with_reducible repeat (first | apply R_alloc | apply R_drewN | apply R_drew)); exact HO_13.out) hg hat); have n2_ := Am (hb); have n3_ := Am (ho); clear HO_8; clear HO_13; clear HB; clear HO213; have HO_8 := n0_; have HO_13 := n1_; have HB := n2_; have HO216 := n3_; clear n0_ n1_ n2_ n3_; clear ho hb hg hat; obtain ⟨Ao68, co68, eo68⟩ := R_slice HO216.out; subst eo68) | ((with_reducible refine gate_callee (f := 17) rfl ?_); refine goesL_ (some 103) rfl rfl Try.func17 (by kernel_rfl) rfl #[.slice Ao35 x8_1.length co35, .slice Ao68 y214.length co68] rfl (by (try simp only [List.map_toArray, List.map_cons, List.map_nil]); first | done | rfl | (simp only [List.length_drop, List.length_take]; rfl)) ?_; (with_reducible refine (sums_Decode.calls _ _ x8_1 _ _ y214 t217 t220 _ ?side1 ?side2 ?side3 ?side4 A48.out).mono ?_); (case side1 => repeat (first | exact (N_reads' HO_8.out).2.2 | (with_reducible refine C_alloc ?_ _) | (with_reducible refine C_drewN ?_ _) | (with_reducible refine C_drew ?_))); (case side2 => exact (N_reads' HO_8.out).2.1); (case side3 => repeat (first | exact (R_reads' HO216.out).2.2 | (with_reducible refine C_alloc ?_ _) | (with_reducible refine C_drewN ?_ _) | (with_reducible refine C_drew ?_))); (case side4 => exact (R_reads' HO216.out).2.1); rintro e w69 ⟨v218, rfl, ho0, hb⟩; refine ⟨_, rfl, ?_⟩; have n0_ := Am (N_elder' (by (with_reducible repeat (first | apply N_alloc | apply N_drewN | apply N_drew)); exact HO_8.out) (N_base ho0) hb); have n1_ := Am (R_below (by (with_reducible repeat (first | apply R_alloc | apply R_drewN | apply R_drew)); exact HO_13.out) hb); have n2_ := Am (R_below (by (with_reducible repeat (first | apply R_alloc | apply R_drewN | apply R_drew)); exact HO216.out) hb); have n3_ := Am (N_lower (N_mono (ok' := fun k_ => some k_ ≠ (.slice Ao35 x8_1.length co35 : Value).ownBlock ∧ some k_ ≠ (.slice Ao38 t202.length co38 : Value).ownBlock ∧ some k_ ≠ (.slice Ao68 y214.length co68 : Value).ownBlock) ho0 (fun k_ hk_ => ⟨(Kd.fresh' (N_lt (by (with_reducible repeat (first | apply N_alloc | apply N_drewN | apply N_drew)); exact HO_8.out)) k_ hk_), (Kd.fresh' (R_lt (by (with_reducible repeat (first | apply R_alloc | apply R_drewN | apply R_drew)); exact HO_13.out)) k_ hk_), (Kd.fresh' (R_lt (by (with_reducible repeat (first | apply R_alloc | apply R_drewN | apply R_drew)); exact HO216.out)) k_ hk_)⟩)) (below_size (by repeat (first | (with_reducible first | exact HB.out | apply below_alloc | apply pw_below_drewN | apply below_drew1) | exact HB.out)))); have n4_ := Am (below_step (by repeat (first | (with_reducible first | exact HB.out | apply below_alloc | apply pw_below_drewN | apply below_drew1) | exact HB.out)) hb); clear HO_8; clear HO_13; clear HO216; clear HB; have HO_8 := n0_; have HO_13 := n1_; have HO216 := n2_; have HO219 := n3_; have HB := n4_; clear n0_ n1_ n2_ n3_ n4_; (try clear hb); (try clear hb2); (try clear hk); (try clear hi); (try clear ho0); have q70 : ((ji55) : Int) ≤ ((t202.length : Int) : Int) := of_decide_eq_true (by first | (with_reducible assumption) | assumption); obtain ⟨i070, hi070, _, hsz70, _⟩ := info_parts info5; have hroom70 : t202.length ≤ co38 := (R_reads' HO_13.out).2.1; have hC70 : Kd.F (Kd.int .u8) _ _ Ao38 t202.length t202 := (V_at (base := w.heap.size) (R_V (R_apart' (R_apart' (HO_13.out) (N_typed HO_8.out) (by decide)) (N_typed HO219.out) (by decide)))).2.2; have hcut70 := cut_to (P := Try.prog) 42 5 .i64 Try.underlying42 hi070 Ao38 t202.length co38 (ji55) (of_decide_eq_true (by first | (with_reducible assumption) | assumption)) q70 hroom70; have hr70 := F_take (m := ((ji55) : Int).toNat) hC70 (by omega); have hy70 : y221.length = ((ji55) : Int).toNat := (by rw [Ny221.out, List.length_take]; omega); rw [← Ny221.out] at hr70; rw [← hy70] at hcut70; have HO225 := Am (show Kd.V (Kd.int .u8) 5 _ w.heap.size _ (.slice Ao38 y221.length co38) y221 from V_mk (by omega) hr70); have HC225 := Am (show y221.length ≤ co38 from by omega); clear hr70 hC70 hroom70 hi070 hsz70; have KY70 := Am hy70; clear hy70; replace q70 := eq_true q70) | ((with_reducible refine gate_callee (f := 17) rfl ?_); refine goesL_ (some 118) rfl rfl Try.func17 (by kernel_rfl) rfl #[.slice Ao35 x8_1.length co35, .slice Ao38 y221.length co38] rfl (by (try simp only [List.map_toArray, List.map_cons, List.map_nil]); first | done | rfl | (simp only [List.length_drop, List.length_take]; rfl)) ?_; (with_reducible refine (sums_Decode.calls _ _ x8_1 _ _ y221 t226 t229 _ ?side1 ?side2 ?side3 ?side4 A58.out).mono ?_); (case side1 => repeat (first | exact (N_reads' HO_8.out).2.2 | (with_reducible refine C_alloc ?_ _) | (with_reducible refine C_drewN ?_ _) | (with_reducible refine C_drew ?_))); (case side2 => exact (N_reads' HO_8.out).2.1); (case side3 => repeat (first | exact (V_reads' HO225.out).2.2 | (with_reducible refine C_alloc ?_ _) | (with_reducible refine C_drewN ?_ _) | (with_reducible refine C_drew ?_))); (case side4 => exact (V_reads' HO225.out).2.1); rintro e w71 ⟨v227, rfl, ho0, hb⟩; refine ⟨_, rfl, ?_⟩; have n0_ := Am (N_elder' (by (with_reducible repeat (first | apply N_alloc | apply N_drewN | apply N_drew)); exact HO_8.out) (N_base ho0) hb); have n1_ := Am (R_below (by (with_reducible repeat (first | apply R_alloc | apply R_drewN | apply R_drew)); exact HO_13.out) hb); have n2_ := Am (R_below (by (with_reducible repeat (first | apply R_alloc | apply R_drewN | apply R_drew)); exact HO216.out) hb); have n3_ := Am (N_elder' (by (with_reducible repeat (first | apply N_alloc | apply N_drewN | apply N_drew)); exact HO219.out) (N_base ho0) hb); have n4_ := Am (V_elder' (by (with_reducible repeat (first | apply V_alloc | apply V_drewN | apply V_drew)); exact HO225.out) (N_base ho0) hb); have n5_ := Am (N_lower (N_mono (ok' := fun k_ => some k_ ≠ (.slice Ao35 x8_1.length co35 : Value).ownBlock ∧ some k_ ≠ (.slice Ao38 t202.length co38 : Value).ownBlock ∧ some k_ ≠ (.slice Ao68 y214.length co68 : Value).ownBlock ∧ some k_ ≠ (v218 : Value).ownBlock) ho0 (fun k_ hk_ => ⟨(Kd.fresh' (N_lt (by (with_reducible repeat (first | apply N_alloc | apply N_drewN | apply N_drew)); exact HO_8.out)) k_ hk_), (Kd.fresh' (R_lt (by (with_reducible repeat (first | apply R_alloc | apply R_drewN | apply R_drew)); exact HO_13.out)) k_ hk_), (Kd.fresh' (R_lt (by (with_reducible repeat (first | apply R_alloc | apply R_drewN | apply R_drew)); exact HO216.out)) k_ hk_), (Kd.fresh' (N_lt (by (with_reducible repeat (first | apply N_alloc | apply N_drewN | apply N_drew)); exact HO219.out)) k_ hk_)⟩)) (below_size (by repeat (first | (with_reducible first | exact HB.out | apply below_alloc | apply pw_below_drewN | apply below_drew1) | exact HB.out)))); have n6_ := Am (below_step (by repeat (first | (with_reducible first | exact HB.out | apply below_alloc | apply pw_below_drewN | apply below_drew1) | exact HB.out)) hb); clear HO_8; clear HO_13; clear HO216; clear HO219; clear HO225; clear HB; have HO_8 := n0_; have HO_13 := n1_; have HO216 := n2_; have HO219 := n3_; have HO225 := n4_; have HO228 := n5_; have HB := n6_; clear n0_ n1_ n2_ n3_ n4_ n5_ n6_; (try clear hb); (try clear hb2); (try clear hk); (try clear hi); (try clear ho0)) | ((with_reducible refine gate_callee (f := 19) rfl ?_); refine goesL_ (some 122) rfl rfl Try.func19 (by kernel_rfl) rfl #[.slice Ao38 t202.length co38] rfl (by (try simp only [List.map_toArray, List.map_cons, List.map_nil]); first | done | rfl | (simp only [List.length_drop, List.length_take]; rfl)) ?_; (with_reducible refine (fugueref00_CopyBytes.calls kj33 _ _ t202 t230 _ ?side1 ?side2 A59.out).mono ?_); (case side1 => repeat (first | exact (R_reads' HO_13.out).2.2 | (with_reducible refine C_alloc ?_ _) | (with_reducible refine C_drewN ?_ _) | (with_reducible refine C_drew ?_))); (case side2 => exact (R_reads' HO_13.out).2.1); rintro e w72 ⟨v231, rfl, ho0, hb⟩; refine ⟨_, rfl, ?_⟩; have n0_ := Am (N_elder' (by (with_reducible repeat (first | apply N_alloc | apply N_drewN | apply N_drew)); exact HO_8.out) (R_base ho0) hb); have n1_ := Am (R_elder' (by (with_reducible repeat (first | apply R_alloc | apply R_drewN | apply R_drew)); exact HO_13.out) (R_base ho0) hb); have n2_ := Am (R_elder' (by (with_reducible repeat (first | apply R_alloc | apply R_drewN | apply R_drew)); exact HO216.out) (R_base ho0) hb); have n3_ := Am (N_elder' (by (with_reducible repeat (first | apply N_alloc | apply N_drewN | apply N_drew)); exact HO219.out) (R_base ho0) hb); have n4_ := Am (V_elder' (by (with_reducible repeat (first | apply V_alloc | apply V_drewN | apply V_drew)); exact HO225.out) (R_base ho0) hb); have n5_ := Am (N_elder' (by (with_reducible repeat (first | apply N_alloc | apply N_drewN | apply N_drew)); exact HO228.out) (R_base ho0) hb); have n6_ := Am (R_lower (R_new' (R_new' ho0 (R_lt (by (with_reducible repeat (first | apply R_alloc | apply R_drewN | apply R_drew)); exact HO_13.out))) (R_lt (by (with_reducible repeat (first | apply R_alloc | apply R_drewN | apply R_drew)); exact HO216.out))) (below_size (by repeat (first | (with_reducible first | exact HB.out | apply below_alloc | apply pw_below_drewN | apply below_drew1) | exact HB.out)))); have n7_ := Am (below_step (by repeat (first | (with_reducible first | exact HB.out | apply below_alloc | apply pw_below_drewN | apply below_drew1) | exact HB.out)) hb); clear HO_8; clear HO_13; clear HO216; clear HO219; clear HO225; clear HO228; clear HB; have HO_8 := n0_; have HO_13 := n1_; have HO216 := n2_; have HO219 := n3_; have HO225 := n4_; have HO228 := n5_; have HO232 := n6_; have HB := n7_; clear n0_ n1_ n2_ n3_ n4_ n5_ n6_ n7_; (try clear hb); (try clear hb2); (try clear hk); (try clear hi); (try clear ho0); obtain ⟨Ao73, co73, eo73⟩ := R_slice HO232.out; subst eo73) | ((with_reducible refine gate_callee (f := 15) rfl ?_); refine goesL_ (some 126) rfl rfl Try.func15 (by kernel_rfl) rfl #[.int .i64 a1, .int .i64 (t230.length : Int)] rfl (by (try simp only [List.map_toArray, List.map_cons, List.map_nil]); first | done | rfl | (simp only [List.length_drop, List.length_take]; rfl)) ?_; (with_reducible refine (fuguelaw09_mod.calls a1 (t230.length : Int) t233 _ A60.out).mono ?_); rintro e w' ⟨rfl, ⟨nd, rfl⟩⟩; refine ⟨_, rfl, ?_⟩; (try (rw [drewN_self w72]; generalize hq_ : World.drewN w72 _ = w72; have n0_ := Am (by have h_ := R_drewN HO216.out nd; rewrite [hq_] at h_; exact h_); have n1_ := Am (by have h_ := N_drewN HO219.out nd; rewrite [hq_] at h_; exact h_); have n2_ := Am (by have h_ := V_drewN HO225.out nd; rewrite [hq_] at h_; exact h_); have n3_ := Am (by have h_ := N_drewN HO228.out nd; rewrite [hq_] at h_; exact h_); have n4_ := Am (by have h_ := R_drewN HO232.out nd; rewrite [hq_] at h_; exact h_); have n5_ := Am (by have h_ := R_drewN HO_13.out nd; rewrite [hq_] at h_; exact h_); have n6_ := Am (by have h_ := N_drewN HO_8.out nd; rewrite [hq_] at h_; exact h_); have n7_ : Aside0 (Below w.heap.size w w72) := ⟨by rw [← hq_]; exact (by repeat (first | (with_reducible first | exact HB.out | apply below_alloc | apply pw_below_drewN | apply below_drew1) | exact HB.out))⟩; clear HO216 HO219 HO225 HO228 HO232 HO_13 HO_8 HB hq_; have HO216 := n0_; have HO219 := n1_; have HO225 := n2_; have HO228 := n3_; have HO232 := n4_; have HO_13 := n5_; have HO_8 := n6_; have HB := n7_; clear n0_ n1_ n2_ n3_ n4_ n5_ n6_ n7_)); have p63 : 0 ≤ (t233 : Int) := of_decide_eq_true (by first | (with_reducible assumption) | assumption); have q63 : (t233 : Int) < ((t230.length : Int) : Int) := of_decide_eq_true (by first | (with_reducible assumption) | assumption); obtain ⟨go63, co63, eo63, gb63, gl63, cl63, HG63⟩ := R_form HO232.out (by omega); (first | cases eo63 | (injection eo63 with ea_ en_ ec_; (first | subst ea_ | (injection ea_ with ea_; subst ea_)); subst ec_; clear en_)); have GB63 := Am gb63; have GG63 := Am HG63; clear gb63 gl63 HG63; obtain ⟨hx63_0, hf63_0⟩ := R_celln 0 HO232.out (t233 : Int) p63 q63; replace p63 := eq_true p63; replace q63 := eq_true q63; have n_ := Am (R_mono (ok' := (fun k_ => some k_ ≠ (.slice Ao38 t202.length co38 : Value).ownBlock ∧ some k_ ≠ (.slice Ao68 y214.length co68 : Value).ownBlock)) HO232.out (fun k_ hk => ⟨hk.1.2, hk.2⟩)); clear HO232; have HO232 := n_; clear n_; obtain ⟨hy74_, hz74_⟩ := R_celln 0 HO232.out (t233 : Int) (of_decide_eq_true (by first | (with_reducible assumption) | assumption)) (of_decide_eq_true (by first | (with_reducible assumption) | assumption)); have HP74 := R_putg HO232.out (t233 : Int) a2) | ((with_reducible refine gate_store (t := 5) (p := 130) rfl ?_); refine store_event (t := 5) (p := 130) (v := ?vo_w75) (w1 := (w72.setCell ⟨go63, (t233 : Int).toNat, none⟩ (.int .u8 a2))) ?hg ?ho ?hn ?hr ?_; (case ho => rfl); (case hg => rfl); (case hn => rfl); (case hr => first | (go_simp; done) | (go_simp; rfl)); intro w75 hw; have hg : w72.grownBy w75 (some go63) := (by rw [hw]; exact HP74.2); have hp_ : Kd.R (Kd.int .u8) 5 w75 w.heap.size (fun k_ => some k_ ≠ (.slice Ao38 t202.length co38 : Value).ownBlock ∧ some k_ ≠ (.slice Ao68 y214.length co68 : Value).ownBlock) (.slice (some ⟨go63, 0, none⟩) t230.length co73) y234 := (by rw [hw, Ny234.out]; exact HP74.1); clear HP74; have n0_ := Am (N_afterv (v := (.slice (some ⟨go63, 0, none⟩) t230.length co73)) (v1 := (.slice (some ⟨go63, 0, none⟩) t230.length co73)) (ok := (fun k_ => some k_ ≠ (.slice Ao38 t202.length co38 : Value).ownBlock ∧ some k_ ≠ (.slice Ao68 y214.length co68 : Value).ownBlock ∧ some k_ ≠ (v218 : Value).ownBlock ∧ some k_ ≠ (v227 : Value).ownBlock)) (by (with_reducible repeat (first | apply N_alloc | apply N_drewN | apply N_drew)); exact N_mono HO_8.out (fun _ hk => ⟨⟨hk.1.1.1.1, ⟨hk.1.1.1.2, ⟨hk.1.1.2, hk.1.2⟩⟩⟩, hk.2⟩)) hg (.inl rfl)); have n1_ := Am (R_after (v := (.slice (some ⟨go63, 0, none⟩) t230.length co73)) (v1 := (.slice (some ⟨go63, 0, none⟩) t230.length co73)) (ok := (fun k_ => some k_ ≠ (.slice Ao68 y214.length co68 : Value).ownBlock)) (by (with_reducible repeat (first | apply R_alloc | apply R_drewN | apply R_drew)); exact R_mono HO_13.out (fun _ hk => ⟨hk.1.2, hk.2⟩)) hg (.inl rfl)); have n2_ := Am (R_after (v := (.slice (some ⟨go63, 0, none⟩) t230.length co73)) (v1 := (.slice (some ⟨go63, 0, none⟩) t230.length co73)) (ok := (fun k_ => some k_ ≠ (.slice Ao38 t202.length co38 : Value).ownBlock)) (by (with_reducible repeat (first | apply R_alloc | apply R_drewN | apply R_drew)); exact HO216.out) hg (.inl rfl)); have n3_ := Am (N_afterv (v := (.slice (some ⟨go63, 0, none⟩) t230.length co73)) (v1 := (.slice (some ⟨go63, 0, none⟩) t230.length co73)) (ok := (fun k_ => some k_ ≠ (.slice Ao35 x8_1.length co35 : Value).ownBlock ∧ some k_ ≠ (.slice Ao38 t202.length co38 : Value).ownBlock ∧ some k_ ≠ (.slice Ao68 y214.length co68 : Value).ownBlock ∧ some k_ ≠ (v227 : Value).ownBlock)) (by (with_reducible repeat (first | apply N_alloc | apply N_drewN | apply N_drew)); exact N_mono HO219.out (fun _ hk => ⟨⟨hk.1.1.1, ⟨hk.1.1.2.1, ⟨hk.1.1.2.2, hk.1.2⟩⟩⟩, hk.2⟩)) hg (.inl rfl)); have n4_ := Am (V_afterv (v := (.slice (some ⟨go63, 0, none⟩) t230.length co73)) (v1 := (.slice (some ⟨go63, 0, none⟩) t230.length co73)) (ok := (fun k_ => some k_ ≠ (.slice Ao35 x8_1.length co35 : Value).ownBlock ∧ some k_ ≠ (.slice Ao68 y214.length co68 : Value).ownBlock ∧ some k_ ≠ (v218 : Value).ownBlock ∧ some k_ ≠ (v227 : Value).ownBlock)) (by (with_reducible repeat (first | apply V_alloc | apply V_drewN | apply V_drew)); exact V_mono HO225.out (fun _ hk => ⟨⟨hk.1.1.1.2, ⟨hk.1.1.1.1.2, ⟨hk.1.1.2, hk.1.2⟩⟩⟩, hk.2⟩)) hg (.inl rfl)); have n5_ := Am (N_afterv (v := (.slice (some ⟨go63, 0, none⟩) t230.length co73)) (v1 := (.slice (some ⟨go63, 0, none⟩) t230.length co73)) (ok := (fun k_ => some k_ ≠ (.slice Ao35 x8_1.length co35 : Value).ownBlock ∧ some k_ ≠ (.slice Ao38 t202.length co38 : Value).ownBlock ∧ some k_ ≠ (.slice Ao68 y214.length co68 : Value).ownBlock ∧ some k_ ≠ (v218 : Value).ownBlock)) (by (with_reducible repeat (first | apply N_alloc | apply N_drewN | apply N_drew)); exact HO228.out) hg (.inl rfl)); have n6_ := Am (hp_); have n7_ := Am ((by rw [hw]; exact below_set (HB.out) GB63.out : Below w.heap.size w w75)); clear HO_8; clear HO_13; clear HO216; clear HO219; clear HO225; clear HO228; clear HO232; clear HB; have HO_8 := n0_; have HO_13 := n1_; have HO216 := n2_; have HO219 := n3_; have HO225 := n4_; have HO228 := n5_; have HO232 := n6_; have HB := n7_; clear n0_ n1_ n2_ n3_ n4_ n5_ n6_ n7_; clear hg hw hp_) | ((with_reducible refine gate_callee (f := 17) rfl ?_); refine goesL_ (some 134) rfl rfl Try.func17 (by kernel_rfl) rfl #[.slice Ao35 x8_1.length co35, .slice (some ⟨go63, 0, none⟩) y234.length co73] rfl (by (try simp only [List.map_toArray, List.map_cons, List.map_nil]); first | done | (rw [show y234.length = t230.length from (R_reads' HO232.out).1.symm] <;> rfl) | rfl | (simp only [List.length_drop, List.length_take]; rfl)) ?_; (with_reducible refine (sums_Decode.calls _ _ x8_1 _ _ y234 t235 t238 _ ?side1 ?side2 ?side3 ?side4 A64.out).mono ?_); (case side1 => repeat (first | exact (N_reads' HO_8.out).2.2 | (with_reducible refine C_alloc ?_ _) | (with_reducible refine C_drewN ?_ _) | (with_reducible refine C_drew ?_))); (case side2 => exact (N_reads' HO_8.out).2.1); (case side3 => repeat (first | exact (R_reads' HO232.out).2.2 | (with_reducible refine C_alloc ?_ _) | (with_reducible refine C_drewN ?_ _) | (with_reducible refine C_drew ?_))); (case side4 => rw [show y234.length = t230.length from (R_reads' HO232.out).1.symm]; exact (R_reads' HO232.out).2.1); rintro e w76 ⟨v236, rfl, ho0, hb⟩; refine ⟨_, rfl, ?_⟩; have n0_ := Am (N_elder' (by (with_reducible repeat (first | apply N_alloc | apply N_drewN | apply N_drew)); exact HO_8.out) (N_base ho0) hb); have n1_ := Am (R_below (by (with_reducible repeat (first | apply R_alloc | apply R_drewN | apply R_drew)); exact HO_13.out) hb); have n2_ := Am (R_below (by (with_reducible repeat (first | apply R_alloc | apply R_drewN | apply R_drew)); exact HO216.out) hb); have n3_ := Am (N_elder' (by (with_reducible repeat (first | apply N_alloc | apply N_drewN | apply N_drew)); exact HO219.out) (N_base ho0) hb); have n4_ := Am (V_elder' (by (with_reducible repeat (first | apply V_alloc | apply V_drewN | apply V_drew)); exact HO225.out) (N_base ho0) hb); have n5_ := Am (N_elder' (by (with_reducible repeat (first | apply N_alloc | apply N_drewN | apply N_drew)); exact HO228.out) (N_base ho0) hb); have n6_ := Am (R_below (by (with_reducible repeat (first | apply R_alloc | apply R_drewN | apply R_drew)); exact HO232.out) hb); have n7_ := Am (N_lower (N_mono (ok' := fun k_ => some k_ ≠ (.slice Ao35 x8_1.length co35 : Value).ownBlock ∧ some k_ ≠ (.slice Ao38 t202.length co38 : Value).ownBlock ∧ some k_ ≠ (.slice Ao68 y214.length co68 : Value).ownBlock ∧ some k_ ≠ (v218 : Value).ownBlock ∧ some k_ ≠ (v227 : Value).ownBlock ∧ some k_ ≠ (.slice (some ⟨go63, 0, none⟩) t230.length co73 : Value).ownBlock) ho0 (fun k_ hk_ => ⟨(Kd.fresh' (N_lt (by (with_reducible repeat (first | apply N_alloc | apply N_drewN | apply N_drew)); exact HO_8.out)) k_ hk_), (Kd.fresh' (R_lt (by (with_reducible repeat (first | apply R_alloc | apply R_drewN | apply R_drew)); exact HO_13.out)) k_ hk_), (Kd.fresh' (R_lt (by (with_reducible repeat (first | apply R_alloc | apply R_drewN | apply R_drew)); exact HO216.out)) k_ hk_), (Kd.fresh' (N_lt (by (with_reducible repeat (first | apply N_alloc | apply N_drewN | apply N_drew)); exact HO219.out)) k_ hk_), (Kd.fresh' (N_lt (by (with_reducible repeat (first | apply N_alloc | apply N_drewN | apply N_drew)); exact HO228.out)) k_ hk_), (Kd.fresh' (R_lt (by (with_reducible repeat (first | apply R_alloc | apply R_drewN | apply R_drew)); exact HO232.out)) k_ hk_)⟩)) (below_size (by repeat (first | (with_reducible first | exact HB.out | apply below_alloc | apply pw_below_drewN | apply below_drew1) | exact HB.out)))); have n8_ := Am (below_step (by repeat (first | (with_reducible first | exact HB.out | apply below_alloc | apply pw_below_drewN | apply below_drew1) | exact HB.out)) hb); clear HO_8; clear HO_13; clear HO216; clear HO219; clear HO225; clear HO228; clear HO232; clear HB; have HO_8 := n0_; have HO_13 := n1_; have HO216 := n2_; have HO219 := n3_; have HO225 := n4_; have HO228 := n5_; have HO232 := n6_; have HO237 := n7_; have HB := n8_; clear n0_ n1_ n2_ n3_ n4_ n5_ n6_ n7_ n8_; (try clear hb); (try clear hb2); (try clear hk); (try clear hi); (try clear ho0)))
              (try simp only [Act.put, List.setIfInBounds_toArray, List.set_cons_zero, List.set_cons_succ])
              go_cut [27] (fun v27 wc => ∃ (kq : Nat) (x27_64 : Bool), v27 = .bool x27_64 ∧ Aside0 (fuguelaw09_SumsRounds.j2 kq x8_1 t229 y234 t235 t238 x27_64 = some r) ∧ Aside0 (kq ≤ kj33) ∧ Aside0 (Kd.N k28 28 wc w.heap.size (fun k_ => some k_ ≠ ((.slice (some ⟨go63, 0, none⟩) t230.length co73) : Value).ownBlock ∧ some k_ ≠ (v236 : Value).ownBlock) (.slice Ao35 x8_1.length co35) x8_1) ∧ Aside0 (Kd.R (Kd.int .u8) 5 wc w.heap.size (fun _ => True) (.slice (some ⟨go63, 0, none⟩) t230.length co73) y234) ∧ Aside0 (Kd.N k31 31 wc w.heap.size (fun k_ => some k_ ≠ ((.slice Ao35 x8_1.length co35) : Value).ownBlock ∧ some k_ ≠ ((.slice (some ⟨go63, 0, none⟩) t230.length co73) : Value).ownBlock) v236 t235) ∧ Aside0 (Below w.heap.size w wc))
              case first =>
               have H := HC65.out
               clear HC65
               by_cases c77 : a2 ≤ 3
               ·
                rw [if_pos c77] at H
                have c77b0 : decide (a2 ≤ 3) = true := decide_eq_true c77
                clear c77
                (first | rw [c77b0] | (simp only [i64_w, i32_w]; rw [c77b0]) | skip)
                have H' := Am H
                clear H
                go_wp2
                go_meet
                case rel => exact ⟨_, (true), (by first | rfl | (simp; done) | (simp [*]; done)), H', ⟨by have := HK1.out; have := HJ33.out; first | omega | exact Nat.le_refl _⟩, ⟨by (with_reducible repeat (first | apply N_alloc | apply N_drewN | apply N_drew)); exact N_mono HO_8.out (fun _ hk => ⟨hk.1.2, hk.2⟩)⟩, ⟨by (with_reducible repeat (first | apply R_alloc | apply R_drewN | apply R_drew)); exact R_mono HO232.out (fun _ hk => trivial)⟩, ⟨by (with_reducible repeat (first | apply N_alloc | apply N_drewN | apply N_drew)); exact N_mono HO237.out (fun _ hk => ⟨hk.1, hk.2.2.2.2.2⟩)⟩, ⟨by repeat (first | (with_reducible first | exact HB.out | apply below_alloc | apply pw_below_drewN | apply below_drew1) | exact HB.out)⟩⟩
               ·
                rw [if_neg c77] at H
                have c77b0 : decide (a2 ≤ 3) = false := decide_eq_false c77
                clear c77
                (first | rw [c77b0] | (simp only [i64_w, i32_w]; rw [c77b0]) | skip)
                have H' := Am H
                clear H
                go_wp2
                go_meet
                case rel => exact ⟨_, ((a2 == 9)), (by first | rfl | (simp; done) | (simp [*]; done)), H', ⟨by have := HK1.out; have := HJ33.out; first | omega | exact Nat.le_refl _⟩, ⟨by (with_reducible repeat (first | apply N_alloc | apply N_drewN | apply N_drew)); exact N_mono HO_8.out (fun _ hk => ⟨hk.1.2, hk.2⟩)⟩, ⟨by (with_reducible repeat (first | apply R_alloc | apply R_drewN | apply R_drew)); exact R_mono HO232.out (fun _ hk => trivial)⟩, ⟨by (with_reducible repeat (first | apply N_alloc | apply N_drewN | apply N_drew)); exact N_mono HO237.out (fun _ hk => ⟨hk.1, hk.2.2.2.2.2⟩)⟩, ⟨by repeat (first | (with_reducible first | exact HB.out | apply below_alloc | apply pw_below_drewN | apply below_drew1) | exact HB.out)⟩⟩
              case rest =>
               clear HC65
               try clear c1
               try clear c2
               try clear p2
               try clear c4
               try clear c5
               try clear c6
               try clear c6b0
               try clear p6
               try clear q6
               try clear hx6
               try clear hf6
               try clear c7
               try clear q7
               try clear c9
               try clear c10
               try clear c15
               try clear c16
               try clear c17
               try clear c18
               try clear c19
               try clear c26
               try clear c42
               try clear c43
               try clear c43b0
               try clear c43b1
               try clear c44
               try clear c44b0
               try clear c44b1
               try clear c45
               try clear c47
               try clear c49
               try clear c49b0
               try clear c49b1
               try clear c50
               try clear c50b0
               try clear c50b1
               try clear c50b2
               try clear c56
               try clear c56b0
               try clear c56b1
               try clear c57
               try clear c57b0
               try clear c57b1
               try clear c61
               try clear c61b0
               try clear c62
               try clear c62b0
               try clear p63
               try clear q63
               try clear hx63
               try clear hf63
               try clear p64
               try clear q70
               try clear c77
               try clear c77b0
               try clear hcz27_0
               try clear hcz27_1
               try clear hcz27_2
               try clear hcz27_3
               try clear hcz29_0
               try clear hcz29_1
               try clear hfz27_0
               try clear hfz27_1
               try clear hfz27_2
               try clear hfz27_3
               try clear hfz29_0
               try clear hfz29_1
               try clear hx63_0
               try clear p2
               try clear p6
               try clear p63
               try clear q63
               try clear q70
               obtain ⟨kq, x27_64, rfl, HA, HJ64, HO_8, HO_23, HO_25, HB⟩ := hcut
               have hl23_64 := (R_reads' HO_23.out).1
               rw [hl23_64] at HO_23
               (try simp only [hl23_64])
               (try simp only [hl23_64] at HO_8)
               (try simp only [hl23_64] at HO_25)
               cases kq with
               | zero => exact absurd HA.out (by simp [fuguelaw09_SumsRounds.j2])
               | succ kj64 =>
                have H := HA.out
                clear HA
                simp only [fuguelaw09_SumsRounds.j2] at H
                have HC78 := Am H
                clear H
                go_upto_region 27 with (fail)
                go_cut [158] (fun v158 wc => ∃ (kq : Nat) (x158_77 : Bool), v158 = .bool x158_77 ∧ Aside0 (fuguelaw09_SumsRounds.j3 kq x8_1 y234 t235 x27_64 x158_77 = some r) ∧ Aside0 (kq ≤ kj64) ∧ Aside0 (Kd.N k28 28 wc w.heap.size (fun k_ => some k_ ≠ ((.slice (some ⟨go63, 0, none⟩) y234.length co73) : Value).ownBlock ∧ some k_ ≠ (v236 : Value).ownBlock) (.slice Ao35 x8_1.length co35) x8_1) ∧ Aside0 (Kd.R (Kd.int .u8) 5 wc w.heap.size (fun _ => True) (.slice (some ⟨go63, 0, none⟩) y234.length co73) y234) ∧ Aside0 (Kd.N k31 31 wc w.heap.size (fun k_ => some k_ ≠ ((.slice Ao35 x8_1.length co35) : Value).ownBlock ∧ some k_ ≠ ((.slice (some ⟨go63, 0, none⟩) y234.length co73) : Value).ownBlock) v236 t235) ∧ Aside0 (Below w.heap.size w wc))
                case first =>
                 have H := HC78.out
                 clear HC78
                 by_cases c79 : t229 = 90
                 ·
                  rw [if_pos c79] at H
                  have c79b0 : (t229 == 90) = true := beq_iff_eq.mpr c79
                  have c79b1 : (t229 != 90) = false := bne_eq_false_iff_eq.mpr c79
                  clear c79
                  (first | rw [c79b0] | (simp only [i64_w, i32_w]; rw [c79b0]) | skip)
                  by_cases c80 : (x27_64 != (t238 == 0)) = true
                  ·
                   rw [if_pos c80] at H
                   have c80b0 : (x27_64 != (t238 == 0)) = true := c80
                   (try (have c80b1 : decide (x27_64 = (t238 == 0)) = false := by simpa using c80))
                   (try (have c80b2 : (x27_64 == (t238 == 0)) = false := by simpa using c80))
                   (try (have c80b3 : ¬ (x27_64 = (t238 == 0)) := by simpa using c80))
                   clear c80
                   have H' := Am H
                   clear H
                   go_wp2
                   go_meet
                   case rel => exact ⟨_, (true), (by first | rfl | (simp; done) | (simp [*]; done)), H', ⟨by have := HK1.out; have := HJ33.out; have := HJ64.out; first | omega | exact Nat.le_refl _⟩, ⟨by (try simp only [hl23_64]); (with_reducible repeat (first | apply N_alloc | apply N_drewN | apply N_drew)); exact HO_8.out⟩, ⟨by (try simp only [hl23_64]); (with_reducible repeat (first | apply R_alloc | apply R_drewN | apply R_drew)); exact HO_23.out⟩, ⟨by (try simp only [hl23_64]); (with_reducible repeat (first | apply N_alloc | apply N_drewN | apply N_drew)); exact HO_25.out⟩, ⟨by repeat (first | (with_reducible first | exact HB.out | apply below_alloc | apply pw_below_drewN | apply below_drew1) | exact HB.out)⟩⟩
                  ·
                   rw [if_neg c80] at H
                   have c80b0 : (x27_64 != (t238 == 0)) = false := by simpa using c80
                   (try (have c80b1 : decide (x27_64 = (t238 == 0)) = true := by simpa using c80))
                   (try (have c80b2 : (x27_64 == (t238 == 0)) = true := by simpa using c80))
                   clear c80
                   by_cases c81 : x27_64 = true
                   ·
                    subst c81
                    have H1 : (fuguelaw09_SumsRounds.j3 kj64 x8_1 y234 t235 true false) = some r := by rw [if_pos rfl] at H; exact H
                    clear H
                    have H := H1
                    clear H1
                    have H' := Am H
                    clear H
                    go_wp2
                    go_meet
                    case rel => exact ⟨_, (false), (by first | rfl | (simp; done) | (simp [*]; done)), H', ⟨by have := HK1.out; have := HJ33.out; have := HJ64.out; first | omega | exact Nat.le_refl _⟩, ⟨by (try simp only [hl23_64]); (with_reducible repeat (first | apply N_alloc | apply N_drewN | apply N_drew)); exact HO_8.out⟩, ⟨by (try simp only [hl23_64]); (with_reducible repeat (first | apply R_alloc | apply R_drewN | apply R_drew)); exact HO_23.out⟩, ⟨by (try simp only [hl23_64]); (with_reducible repeat (first | apply N_alloc | apply N_drewN | apply N_drew)); exact HO_25.out⟩, ⟨by repeat (first | (with_reducible first | exact HB.out | apply below_alloc | apply pw_below_drewN | apply below_drew1) | exact HB.out)⟩⟩
                   ·
                    replace c81 := Bool.eq_false_iff.mpr c81
                    subst c81
                    have H1 : (fuguelaw09_SumsRounds.j3 kj64 x8_1 y234 t235 false (t238 != 90)) = some r := by rw [if_neg (show ¬ (false = true) by decide)] at H; exact H
                    clear H
                    have H := H1
                    clear H1
                    have H' := Am H
                    clear H
                    go_wp2
                    go_meet
                    case rel => exact ⟨_, ((t238 != 90)), (by first | rfl | (simp; done) | (simp [*]; done)), H', ⟨by have := HK1.out; have := HJ33.out; have := HJ64.out; first | omega | exact Nat.le_refl _⟩, ⟨by (try simp only [hl23_64]); (with_reducible repeat (first | apply N_alloc | apply N_drewN | apply N_drew)); exact HO_8.out⟩, ⟨by (try simp only [hl23_64]); (with_reducible repeat (first | apply R_alloc | apply R_drewN | apply R_drew)); exact HO_23.out⟩, ⟨by (try simp only [hl23_64]); (with_reducible repeat (first | apply N_alloc | apply N_drewN | apply N_drew)); exact HO_25.out⟩, ⟨by repeat (first | (with_reducible first | exact HB.out | apply below_alloc | apply pw_below_drewN | apply below_drew1) | exact HB.out)⟩⟩
                 ·
                  rw [if_neg c79] at H
                  have c79b0 : (t229 == 90) = false := beq_eq_false_iff_ne.mpr c79
                  have c79b1 : (t229 != 90) = true := bne_iff_ne.mpr c79
                  (first | rw [c79b0] | (simp only [i64_w, i32_w]; rw [c79b0]) | skip)
                  have H' := Am H
                  clear H
                  go_wp2
                  go_meet
                  case rel => exact ⟨_, (true), (by first | rfl | (simp; done) | (simp [*]; done)), H', ⟨by have := HK1.out; have := HJ33.out; have := HJ64.out; first | omega | exact Nat.le_refl _⟩, ⟨by (try simp only [hl23_64]); (with_reducible repeat (first | apply N_alloc | apply N_drewN | apply N_drew)); exact HO_8.out⟩, ⟨by (try simp only [hl23_64]); (with_reducible repeat (first | apply R_alloc | apply R_drewN | apply R_drew)); exact HO_23.out⟩, ⟨by (try simp only [hl23_64]); (with_reducible repeat (first | apply N_alloc | apply N_drewN | apply N_drew)); exact HO_25.out⟩, ⟨by repeat (first | (with_reducible first | exact HB.out | apply below_alloc | apply pw_below_drewN | apply below_drew1) | exact HB.out)⟩⟩
                case rest =>
                 clear HC78
                 try clear c1
                 try clear c2
                 try clear p2
                 try clear c4
                 try clear c5
                 try clear c6
                 try clear c6b0
                 try clear p6
                 try clear q6
                 try clear hx6
                 try clear hf6
                 try clear c7
                 try clear q7
                 try clear c8
                 try clear c9
                 try clear c10
                 try clear c15
                 try clear c16
                 try clear c17
                 try clear c18
                 try clear c19
                 try clear c26
                 try clear c42
                 try clear c43
                 try clear c43b0
                 try clear c43b1
                 try clear c44
                 try clear c44b0
                 try clear c44b1
                 try clear c45
                 try clear c47
                 try clear c49
                 try clear c49b0
                 try clear c49b1
                 try clear c50
                 try clear c50b0
                 try clear c50b1
                 try clear c50b2
                 try clear c56
                 try clear c56b0
                 try clear c56b1
                 try clear c57
                 try clear c57b0
                 try clear c57b1
                 try clear c61
                 try clear c61b0
                 try clear c62
                 try clear c62b0
                 try clear p63
                 try clear q63
                 try clear hx63
                 try clear hf63
                 try clear p64
                 try clear q70
                 try clear c77
                 try clear c77b0
                 try clear c79
                 try clear c79b0
                 try clear c79b1
                 try clear c80
                 try clear c80b0
                 try clear c80b1
                 try clear c80b2
                 try clear c81
                 try clear hcz27_0
                 try clear hcz27_1
                 try clear hcz27_2
                 try clear hcz27_3
                 try clear hcz29_0
                 try clear hcz29_1
                 try clear hfz27_0
                 try clear hfz27_1
                 try clear hfz27_2
                 try clear hfz27_3
                 try clear hfz29_0
                 try clear hfz29_1
                 try clear hx63_0
                 try clear p2
                 try clear p6
                 try clear p63
                 try clear p64
                 try clear q6
                 try clear q63
                 try clear q7
                 try clear q70
                 obtain ⟨kq, x158_77, rfl, HA, HJ77, HO_8, HO_23, HO_25, HB⟩ := hcut
                 cases kq with
                 | zero => exact absurd HA.out (by simp [fuguelaw09_SumsRounds.j3])
                 | succ kj77 =>
                  have H := HA.out
                  clear HA
                  simp only [fuguelaw09_SumsRounds.j3] at H
                  by_cases c82 : x158_77 = true
                  ·
                   subst c82
                   have H1 : (some false) = some r := by rw [if_pos rfl] at H; exact H
                   clear H
                   have H := H1
                   clear H1
                   obtain rfl := Option.some.inj H
                   go_wp2
                   go_ret
                   exact ⟨by first | rfl | (simp [errW_none, errW_some] <;> rfl) | (simp only [← hji55]; first | rfl | (simp [errW_none, errW_some] <;> rfl)) | (simp [*, errW_none, errW_some] <;> rfl), by repeat (first | (with_reducible first | exact HB.out | apply below_alloc | apply pw_below_drewN | apply below_drew1) | exact HB.out)⟩
                  ·
                   replace c82 := Bool.eq_false_iff.mpr c82
                   subst c82
                   have H1 : ((sums_Encode.f x8_1 t235).bind fun bt239 => ((fugueref00_EqBytes.f kj77 bt239.1 y234).bind fun t243 => (if x27_64 = true then (if bt239.2 = 0 then (some t243) else (some false)) else (some true)))) = some r := by rw [if_neg (show ¬ (false = true) by decide)] at H; exact H
                   clear H
                   have H := H1
                   clear H1
                   replace H := Option.bind_eq_some_iff.mp H
                   obtain ⟨⟨t239, t240⟩, A830, H⟩ := H
                   replace H : ((fugueref00_EqBytes.f kj77 t239 y234).bind fun t243 => (if x27_64 = true then (if t240 = 0 then (some t243) else (some false)) else (some true))) = some r := H
                   have A83 := Am A830
                   clear A830
                   replace H := Option.bind_eq_some_iff.mp H
                   obtain ⟨t243, A840, H⟩ := H
                   replace H : (if x27_64 = true then (if t240 = 0 then (some t243) else (some false)) else (some true)) = some r := H
                   have A84 := Am A840
                   clear A840
                   by_cases c85 : x27_64 = true
                   ·
                    subst c85
                    have H1 : (if t240 = 0 then (some t243) else (some false)) = some r := by rw [if_pos rfl] at H; exact H
                    clear H
                    have H := H1
                    clear H1
                    by_cases c86 : t240 = 0
                    ·
                     rw [if_pos c86] at H
                     have c86b0 : (t240 == 0) = true := beq_iff_eq.mpr c86
                     have c86b1 : (t240 != 0) = false := bne_eq_false_iff_eq.mpr c86
                     clear c86
                     obtain rfl := Option.some.inj H
                     obtain ⟨Ao87, co87, eo87⟩ := N_slice HO_25.out
                     subst eo87
                     go_wp2_with (first | ((with_reducible refine gate_callee (f := 16) rfl ?_); refine goesL_ (some 162) rfl rfl Try.func16 (by kernel_rfl) rfl #[.slice Ao35 x8_1.length co35, .slice Ao87 t235.length co87] rfl (by (try simp only [List.map_toArray, List.map_cons, List.map_nil]); first | done | rfl | (simp only [List.length_drop, List.length_take]; rfl)) ?_; (with_reducible refine (sums_Encode.calls _ _ x8_1 _ _ t235 t239 t240 _ ?side1 ?side2 ?side3 ?side4 A83.out).mono ?_); (case side1 => repeat (first | exact (N_reads' HO_8.out).2.2 | (with_reducible refine C_alloc ?_ _) | (with_reducible refine C_drewN ?_ _) | (with_reducible refine C_drew ?_))); (case side2 => exact (N_reads' HO_8.out).2.1); (case side3 => repeat (first | exact (N_reads' HO_25.out).2.2 | (with_reducible refine C_alloc ?_ _) | (with_reducible refine C_drewN ?_ _) | (with_reducible refine C_drew ?_))); (case side4 => exact (N_reads' HO_25.out).2.1); rintro e w88 ⟨v241, rfl, ho0, hb⟩; refine ⟨_, rfl, ?_⟩; have n0_ := Am (N_elder' (by (with_reducible repeat (first | apply N_alloc | apply N_drewN | apply N_drew)); exact HO_8.out) (R_base ho0) hb); have n1_ := Am (R_elder' (by (with_reducible repeat (first | apply R_alloc | apply R_drewN | apply R_drew)); exact HO_23.out) (R_base ho0) hb); have n2_ := Am (N_elder' (by (with_reducible repeat (first | apply N_alloc | apply N_drewN | apply N_drew)); exact HO_25.out) (R_base ho0) hb); have n3_ := Am (R_lower (R_new' ho0 (R_lt (by (with_reducible repeat (first | apply R_alloc | apply R_drewN | apply R_drew)); exact HO_23.out))) (below_size (by repeat (first | (with_reducible first | exact HB.out | apply below_alloc | apply pw_below_drewN | apply below_drew1) | exact HB.out)))); have n4_ := Am (below_step (by repeat (first | (with_reducible first | exact HB.out | apply below_alloc | apply pw_below_drewN | apply below_drew1) | exact HB.out)) hb); clear HO_8; clear HO_23; clear HO_25; clear HB; have HO_8 := n0_; have HO_23 := n1_; have HO_25 := n2_; have HO242 := n3_; have HB := n4_; clear n0_ n1_ n2_ n3_ n4_; (try clear hb); (try clear hb2); (try clear hk); (try clear hi); (try clear ho0); obtain ⟨Ao89, co89, eo89⟩ := R_slice HO242.out; subst eo89) | ((with_reducible refine gate_callee (f := 20) rfl ?_); refine goesL_ (some 167) rfl rfl Try.func20 (by kernel_rfl) rfl #[.slice Ao89 t239.length co89, .slice (some ⟨go63, 0, none⟩) y234.length co73] rfl (by (try simp only [List.map_toArray, List.map_cons, List.map_nil]); first | done | rfl | (simp only [List.length_drop, List.length_take]; rfl)) ?_; (with_reducible refine (fugueref00_EqBytes.calls kj77 _ _ t239 _ _ y234 t243 _ ?side1 ?side2 ?side3 ?side4 A84.out).mono ?_); (case side1 => repeat (first | exact (R_reads' HO242.out).2.2 | (with_reducible refine C_alloc ?_ _) | (with_reducible refine C_drewN ?_ _) | (with_reducible refine C_drew ?_))); (case side2 => exact (R_reads' HO242.out).2.1); (case side3 => repeat (first | exact (R_reads' HO_23.out).2.2 | (with_reducible refine C_alloc ?_ _) | (with_reducible refine C_drewN ?_ _) | (with_reducible refine C_drew ?_))); (case side4 => exact (R_reads' HO_23.out).2.1); rintro e w' ⟨rfl, ⟨nd, rfl⟩⟩; refine ⟨_, rfl, ?_⟩))
                     go_ret
                     exact ⟨by first | rfl | (simp [errW_none, errW_some] <;> rfl) | (simp only [← hji55]; first | rfl | (simp [errW_none, errW_some] <;> rfl)) | (simp [*, errW_none, errW_some] <;> rfl), by repeat (first | (with_reducible first | exact HB.out | apply below_alloc | apply pw_below_drewN | apply below_drew1) | exact HB.out)⟩
                    ·
                     rw [if_neg c86] at H
                     have c86b0 : (t240 == 0) = false := beq_eq_false_iff_ne.mpr c86
                     have c86b1 : (t240 != 0) = true := bne_iff_ne.mpr c86
                     obtain rfl := Option.some.inj H
                     obtain ⟨Ao90, co90, eo90⟩ := N_slice HO_25.out
                     subst eo90
                     go_wp2_with (first | ((with_reducible refine gate_callee (f := 16) rfl ?_); refine goesL_ (some 162) rfl rfl Try.func16 (by kernel_rfl) rfl #[.slice Ao35 x8_1.length co35, .slice Ao90 t235.length co90] rfl (by (try simp only [List.map_toArray, List.map_cons, List.map_nil]); first | done | rfl | (simp only [List.length_drop, List.length_take]; rfl)) ?_; (with_reducible refine (sums_Encode.calls _ _ x8_1 _ _ t235 t239 t240 _ ?side1 ?side2 ?side3 ?side4 A83.out).mono ?_); (case side1 => repeat (first | exact (N_reads' HO_8.out).2.2 | (with_reducible refine C_alloc ?_ _) | (with_reducible refine C_drewN ?_ _) | (with_reducible refine C_drew ?_))); (case side2 => exact (N_reads' HO_8.out).2.1); (case side3 => repeat (first | exact (N_reads' HO_25.out).2.2 | (with_reducible refine C_alloc ?_ _) | (with_reducible refine C_drewN ?_ _) | (with_reducible refine C_drew ?_))); (case side4 => exact (N_reads' HO_25.out).2.1); rintro e w91 ⟨v241, rfl, ho0, hb⟩; refine ⟨_, rfl, ?_⟩; have n0_ := Am (N_elder' (by (with_reducible repeat (first | apply N_alloc | apply N_drewN | apply N_drew)); exact HO_8.out) (R_base ho0) hb); have n1_ := Am (R_elder' (by (with_reducible repeat (first | apply R_alloc | apply R_drewN | apply R_drew)); exact HO_23.out) (R_base ho0) hb); have n2_ := Am (N_elder' (by (with_reducible repeat (first | apply N_alloc | apply N_drewN | apply N_drew)); exact HO_25.out) (R_base ho0) hb); have n3_ := Am (R_lower (R_new' ho0 (R_lt (by (with_reducible repeat (first | apply R_alloc | apply R_drewN | apply R_drew)); exact HO_23.out))) (below_size (by repeat (first | (with_reducible first | exact HB.out | apply below_alloc | apply pw_below_drewN | apply below_drew1) | exact HB.out)))); have n4_ := Am (below_step (by repeat (first | (with_reducible first | exact HB.out | apply below_alloc | apply pw_below_drewN | apply below_drew1) | exact HB.out)) hb); clear HO_8; clear HO_23; clear HO_25; clear HB; have HO_8 := n0_; have HO_23 := n1_; have HO_25 := n2_; have HO242 := n3_; have HB := n4_; clear n0_ n1_ n2_ n3_ n4_; (try clear hb); (try clear hb2); (try clear hk); (try clear hi); (try clear ho0); obtain ⟨Ao92, co92, eo92⟩ := R_slice HO242.out; subst eo92) | ((with_reducible refine gate_callee (f := 20) rfl ?_); refine goesL_ (some 167) rfl rfl Try.func20 (by kernel_rfl) rfl #[.slice Ao92 t239.length co92, .slice (some ⟨go63, 0, none⟩) y234.length co73] rfl (by (try simp only [List.map_toArray, List.map_cons, List.map_nil]); first | done | rfl | (simp only [List.length_drop, List.length_take]; rfl)) ?_; (with_reducible refine (fugueref00_EqBytes.calls kj77 _ _ t239 _ _ y234 t243 _ ?side1 ?side2 ?side3 ?side4 A84.out).mono ?_); (case side1 => repeat (first | exact (R_reads' HO242.out).2.2 | (with_reducible refine C_alloc ?_ _) | (with_reducible refine C_drewN ?_ _) | (with_reducible refine C_drew ?_))); (case side2 => exact (R_reads' HO242.out).2.1); (case side3 => repeat (first | exact (R_reads' HO_23.out).2.2 | (with_reducible refine C_alloc ?_ _) | (with_reducible refine C_drewN ?_ _) | (with_reducible refine C_drew ?_))); (case side4 => exact (R_reads' HO_23.out).2.1); rintro e w' ⟨rfl, ⟨nd, rfl⟩⟩; refine ⟨_, rfl, ?_⟩))
                     go_ret
                     exact ⟨by first | rfl | (simp [errW_none, errW_some] <;> rfl) | (simp only [← hji55]; first | rfl | (simp [errW_none, errW_some] <;> rfl)) | (simp [*, errW_none, errW_some] <;> rfl), by repeat (first | (with_reducible first | exact HB.out | apply below_alloc | apply pw_below_drewN | apply below_drew1) | exact HB.out)⟩
                   ·
                    replace c85 := Bool.eq_false_iff.mpr c85
                    subst c85
                    have H1 : (some true) = some r := by rw [if_neg (show ¬ (false = true) by decide)] at H; exact H
                    clear H
                    have H := H1
                    clear H1
                    obtain rfl := Option.some.inj H
                    obtain ⟨Ao93, co93, eo93⟩ := N_slice HO_25.out
                    subst eo93
                    go_wp2_with (first | ((with_reducible refine gate_callee (f := 16) rfl ?_); refine goesL_ (some 162) rfl rfl Try.func16 (by kernel_rfl) rfl #[.slice Ao35 x8_1.length co35, .slice Ao93 t235.length co93] rfl (by (try simp only [List.map_toArray, List.map_cons, List.map_nil]); first | done | rfl | (simp only [List.length_drop, List.length_take]; rfl)) ?_; (with_reducible refine (sums_Encode.calls _ _ x8_1 _ _ t235 t239 t240 _ ?side1 ?side2 ?side3 ?side4 A83.out).mono ?_); (case side1 => repeat (first | exact (N_reads' HO_8.out).2.2 | (with_reducible refine C_alloc ?_ _) | (with_reducible refine C_drewN ?_ _) | (with_reducible refine C_drew ?_))); (case side2 => exact (N_reads' HO_8.out).2.1); (case side3 => repeat (first | exact (N_reads' HO_25.out).2.2 | (with_reducible refine C_alloc ?_ _) | (with_reducible refine C_drewN ?_ _) | (with_reducible refine C_drew ?_))); (case side4 => exact (N_reads' HO_25.out).2.1); rintro e w94 ⟨v241, rfl, ho0, hb⟩; refine ⟨_, rfl, ?_⟩; have n0_ := Am (N_elder' (by (with_reducible repeat (first | apply N_alloc | apply N_drewN | apply N_drew)); exact HO_8.out) (R_base ho0) hb); have n1_ := Am (R_elder' (by (with_reducible repeat (first | apply R_alloc | apply R_drewN | apply R_drew)); exact HO_23.out) (R_base ho0) hb); have n2_ := Am (N_elder' (by (with_reducible repeat (first | apply N_alloc | apply N_drewN | apply N_drew)); exact HO_25.out) (R_base ho0) hb); have n3_ := Am (R_lower (R_new' ho0 (R_lt (by (with_reducible repeat (first | apply R_alloc | apply R_drewN | apply R_drew)); exact HO_23.out))) (below_size (by repeat (first | (with_reducible first | exact HB.out | apply below_alloc | apply pw_below_drewN | apply below_drew1) | exact HB.out)))); have n4_ := Am (below_step (by repeat (first | (with_reducible first | exact HB.out | apply below_alloc | apply pw_below_drewN | apply below_drew1) | exact HB.out)) hb); clear HO_8; clear HO_23; clear HO_25; clear HB; have HO_8 := n0_; have HO_23 := n1_; have HO_25 := n2_; have HO242 := n3_; have HB := n4_; clear n0_ n1_ n2_ n3_ n4_; (try clear hb); (try clear hb2); (try clear hk); (try clear hi); (try clear ho0); obtain ⟨Ao95, co95, eo95⟩ := R_slice HO242.out; subst eo95) | ((with_reducible refine gate_callee (f := 20) rfl ?_); refine goesL_ (some 167) rfl rfl Try.func20 (by kernel_rfl) rfl #[.slice Ao95 t239.length co95, .slice (some ⟨go63, 0, none⟩) y234.length co73] rfl (by (try simp only [List.map_toArray, List.map_cons, List.map_nil]); first | done | rfl | (simp only [List.length_drop, List.length_take]; rfl)) ?_; (with_reducible refine (fugueref00_EqBytes.calls kj77 _ _ t239 _ _ y234 t243 _ ?side1 ?side2 ?side3 ?side4 A84.out).mono ?_); (case side1 => repeat (first | exact (R_reads' HO242.out).2.2 | (with_reducible refine C_alloc ?_ _) | (with_reducible refine C_drewN ?_ _) | (with_reducible refine C_drew ?_))); (case side2 => exact (R_reads' HO242.out).2.1); (case side3 => repeat (first | exact (R_reads' HO_23.out).2.2 | (with_reducible refine C_alloc ?_ _) | (with_reducible refine C_drewN ?_ _) | (with_reducible refine C_drew ?_))); (case side4 => exact (R_reads' HO_23.out).2.1); rintro e w' ⟨rfl, ⟨nd, rfl⟩⟩; refine ⟨_, rfl, ?_⟩))
                    go_ret
                    exact ⟨by first | rfl | (simp [errW_none, errW_some] <;> rfl) | (simp only [← hji55]; first | rfl | (simp [errW_none, errW_some] <;> rfl)) | (simp [*, errW_none, errW_some] <;> rfl), by repeat (first | (with_reducible first | exact HB.out | apply below_alloc | apply pw_below_drewN | apply below_drew1) | exact HB.out)⟩
             ·
              rw [if_neg c62] at H
              exact absurd H (by simp)
            ·
             rw [if_neg c61] at H
             exact absurd H (by simp)
           ·
            rw [if_neg c57] at H
            exact absurd H (by simp)
          ·
           rw [if_neg c56] at H
           exact absurd H (by simp)
        ·
         rw [if_neg c49] at H
         have c49b0 : (t220 == 90) = false := beq_eq_false_iff_ne.mpr c49
         have c49b1 : (t220 != 90) = true := bne_iff_ne.mpr c49
         obtain rfl := Option.some.inj H
         go_wp2_with (first | ((with_reducible refine gate_callee (f := 19) rfl ?_); refine goesL_ (some 96) rfl rfl Try.func19 (by kernel_rfl) rfl #[.slice Ao38 t202.length co38] rfl (by (try simp only [List.map_toArray, List.map_cons, List.map_nil]); first | done | rfl | (simp only [List.length_drop, List.length_take]; rfl)) ?_; (with_reducible refine (fugueref00_CopyBytes.calls kj33 _ _ t202 t211 _ ?side1 ?side2 A46.out).mono ?_); (case side1 => repeat (first | exact (R_reads' HO_13.out).2.2 | (with_reducible refine C_alloc ?_ _) | (with_reducible refine C_drewN ?_ _) | (with_reducible refine C_drew ?_))); (case side2 => exact (R_reads' HO_13.out).2.1); rintro e w96 ⟨v212, rfl, ho0, hb⟩; refine ⟨_, rfl, ?_⟩; have n0_ := Am (N_elder' (by (with_reducible repeat (first | apply N_alloc | apply N_drewN | apply N_drew)); exact HO_8.out) (R_base ho0) hb); have n1_ := Am (R_elder' (by (with_reducible repeat (first | apply R_alloc | apply R_drewN | apply R_drew)); exact HO_13.out) (R_base ho0) hb); have n2_ := Am (R_lower (R_new' ho0 (R_lt (by (with_reducible repeat (first | apply R_alloc | apply R_drewN | apply R_drew)); exact HO_13.out))) (below_size (by repeat (first | (with_reducible first | exact HB.out | apply below_alloc | apply pw_below_drewN | apply below_drew1) | exact HB.out)))); have n3_ := Am (below_step (by repeat (first | (with_reducible first | exact HB.out | apply below_alloc | apply pw_below_drewN | apply below_drew1) | exact HB.out)) hb); clear HO_8; clear HO_13; clear HB; have HO_8 := n0_; have HO_13 := n1_; have HO213 := n2_; have HB := n3_; clear n0_ n1_ n2_ n3_; (try clear hb); (try clear hb2); (try clear hk); (try clear hi); (try clear ho0)) | ((with_reducible refine gate_builtin (b := .append) (xs := #[.tmp 96, .tmp 98]) rfl ?_); at_builtin; refine R_append (Kd.int .u8) (w0 := w) w.heap.size rfl (.tmp 96) (.tmp 98) 42 5 (.int .u8 0) 1 rfl Try.underlying42 info5 rfl (by decide) (by omega) v212 t211 a2 [.int .u8 a2] (fun k_ => some k_ ≠ (.slice Ao38 t202.length co38 : Value).ownBlock) (fun _ => False) rfl rfl ?aP (fun _ hk => hk.elim) ?aF ?aO ?aB ?aS ?aL ?_; (case aP => exact rfl); (case aB => exact (by repeat (first | (with_reducible first | exact HB.out | apply below_alloc | apply pw_below_drewN | apply below_drew1) | exact HB.out))); (case aF => exact (fun k_ hk => Kd.fresh' (R_lt (by (with_reducible repeat (first | apply R_alloc | apply R_drewN | apply R_drew)); exact HO_13.out)) k_ hk)); (case aO => exact (by (with_reducible repeat (first | apply R_alloc | apply R_drewN | apply R_drew)); exact R_mono HO213.out (fun _ hk => hk.2))); (case aS => exact (below_size (by repeat (first | (with_reducible first | exact HB.out | apply below_alloc | apply pw_below_drewN | apply below_drew1) | exact HB.out)))); (case aL => have := LMc47.out; omega); intro v215 w97 ho hb hg hat; rw [← Ny214.out] at ho; have n0_ := Am (N_afterv (ok := (fun k_ => some k_ ≠ (.slice Ao38 t202.length co38 : Value).ownBlock)) (by (with_reducible repeat (first | apply N_alloc | apply N_drewN | apply N_drew)); exact HO_8.out) hg hat); have n1_ := Am (R_after (ok := (fun _ => True)) (by (with_reducible repeat (first | apply R_alloc | apply R_drewN | apply R_drew)); exact HO_13.out) hg hat); have n2_ := Am (hb); have n3_ := Am (ho); clear HO_8; clear HO_13; clear HB; clear HO213; have HO_8 := n0_; have HO_13 := n1_; have HB := n2_; have HO216 := n3_; clear n0_ n1_ n2_ n3_; clear ho hb hg hat; obtain ⟨Ao98, co98, eo98⟩ := R_slice HO216.out; subst eo98) | ((with_reducible refine gate_callee (f := 17) rfl ?_); refine goesL_ (some 103) rfl rfl Try.func17 (by kernel_rfl) rfl #[.slice Ao35 x8_1.length co35, .slice Ao98 y214.length co98] rfl (by (try simp only [List.map_toArray, List.map_cons, List.map_nil]); first | done | rfl | (simp only [List.length_drop, List.length_take]; rfl)) ?_; (with_reducible refine (sums_Decode.calls _ _ x8_1 _ _ y214 t217 t220 _ ?side1 ?side2 ?side3 ?side4 A48.out).mono ?_); (case side1 => repeat (first | exact (N_reads' HO_8.out).2.2 | (with_reducible refine C_alloc ?_ _) | (with_reducible refine C_drewN ?_ _) | (with_reducible refine C_drew ?_))); (case side2 => exact (N_reads' HO_8.out).2.1); (case side3 => repeat (first | exact (R_reads' HO216.out).2.2 | (with_reducible refine C_alloc ?_ _) | (with_reducible refine C_drewN ?_ _) | (with_reducible refine C_drew ?_))); (case side4 => exact (R_reads' HO216.out).2.1); rintro e w99 ⟨v218, rfl, ho0, hb⟩; refine ⟨_, rfl, ?_⟩; have n0_ := Am (N_elder' (by (with_reducible repeat (first | apply N_alloc | apply N_drewN | apply N_drew)); exact HO_8.out) (N_base ho0) hb); have n1_ := Am (R_below (by (with_reducible repeat (first | apply R_alloc | apply R_drewN | apply R_drew)); exact HO_13.out) hb); have n2_ := Am (R_below (by (with_reducible repeat (first | apply R_alloc | apply R_drewN | apply R_drew)); exact HO216.out) hb); have n3_ := Am (N_lower (N_mono (ok' := fun k_ => some k_ ≠ (.slice Ao35 x8_1.length co35 : Value).ownBlock ∧ some k_ ≠ (.slice Ao38 t202.length co38 : Value).ownBlock ∧ some k_ ≠ (.slice Ao98 y214.length co98 : Value).ownBlock) ho0 (fun k_ hk_ => ⟨(Kd.fresh' (N_lt (by (with_reducible repeat (first | apply N_alloc | apply N_drewN | apply N_drew)); exact HO_8.out)) k_ hk_), (Kd.fresh' (R_lt (by (with_reducible repeat (first | apply R_alloc | apply R_drewN | apply R_drew)); exact HO_13.out)) k_ hk_), (Kd.fresh' (R_lt (by (with_reducible repeat (first | apply R_alloc | apply R_drewN | apply R_drew)); exact HO216.out)) k_ hk_)⟩)) (below_size (by repeat (first | (with_reducible first | exact HB.out | apply below_alloc | apply pw_below_drewN | apply below_drew1) | exact HB.out)))); have n4_ := Am (below_step (by repeat (first | (with_reducible first | exact HB.out | apply below_alloc | apply pw_below_drewN | apply below_drew1) | exact HB.out)) hb); clear HO_8; clear HO_13; clear HO216; clear HB; have HO_8 := n0_; have HO_13 := n1_; have HO216 := n2_; have HO219 := n3_; have HB := n4_; clear n0_ n1_ n2_ n3_ n4_; (try clear hb); (try clear hb2); (try clear hk); (try clear hi); (try clear ho0)))
         go_ret
         exact ⟨by first | rfl | (simp [errW_none, errW_some] <;> rfl) | (simp [*, errW_none, errW_some] <;> rfl), by repeat (first | (with_reducible first | exact HB.out | apply below_alloc | apply pw_below_drewN | apply below_drew1) | exact HB.out)⟩
       ·
        rw [if_neg c47] at H
        exact absurd H (by simp)

end Go.Proofs.Ytgemcomcjojjbaa.PS
