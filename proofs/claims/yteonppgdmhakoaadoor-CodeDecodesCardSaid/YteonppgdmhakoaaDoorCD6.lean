/- What a proof of this seat needs, laid together by a program of the session's. No conditions. -/
import Derived.Test.YteonppgdmhakoaaDoorCD5
import Derived.Test.YteonppgdmhakoaaDoorCD1
import Derived.Test.YteonppgdmhakoaaDoorCD2
import Derived.Test.YteonppgdmhakoaaDoorCD4
import Derived.Test.YteonppgdmhakoaaDoorCards
import Derived.Test.YteonppgdmhakoaaDoorTie
import Derived.Deep.DeepHandedRow
import Derived.Lib.LaidTab
import Derived.Deep.Slices
import Derived.SizedLaws
import Derived.Carry
import Derived.WideShapes
import Derived.Test.YteonppgdmhakoaaDoorRows
import Derived.WalkKit
import Derived.ProofKit
import Derived.OpenShut
import Derived.ShutString
import Derived.ChangeOld
import Derived.Below
namespace Go.Proofs.YteonppgdmhakoaaDoor.PC
open Go.RowKit Go.Proofs.YteonppgdmhakoaaDoorW.PrintWords Go.Proofs.YteonppgdmhakoaaDoorW.PrintLast Go.Proofs.YteonppgdmhakoaaDoorW.PrintMore
set_option linter.unusedVariables false
set_option linter.unusedSimpArgs false
def fugueref01_Decode.f (l0 : List Int) : Option (Int × List S46 × Int × Int) := if (l0.all fun x => decide (0 ≤ x ∧ x ≤ 255)) = true then some (decOut l0) else none
theorem fugueref01_Decode.calls (A0 : Option Addr) (c0 : Nat) (l0 : List Int) (r1 : Int) (r2 : List (S46)) (r3 r4 : Int) (w : World) (hr0 : Kd.C (Kd.int .u8) w A0 l0.length l0) (hc0 : l0.length ≤ c0) (h : fugueref01_Decode.f l0 = some (r1, r2, r3, r4)) :
  Calls Tryd.prog 25 #[.slice A0 l0.length c0] w fun e w' => ∃ v1_ : Value, e = .returned (.tuple #[.agg #[.int .i64 r1, v1_], .int .i64 r3, .int .i64 r4]) ∧ Kd.R k46 46 w' w.heap.size (fun _ => True) v1_ r2 ∧ Below w.heap.size w w' := by
 unfold fugueref01_Decode.f at h
 by_cases hl : (l0.all fun x => decide (0 ≤ x ∧ x ≤ 255)) = true
 ·rw [if_pos hl] at h
  injection h with h
  refine (refdec_any A0 c0 l0 w hr0 (fun x hx => by rw [List.all_eq_true] at hl; simpa using hl x hx)).mono ?_
  rintro e w' ⟨v, he, hR, hB⟩
  rw [h] at he hR
  exact ⟨v, he, Kd.R_mono hR (fun _ _ => trivial), hB⟩
 ·rw [if_neg hl] at h
  cases h
end Go.Proofs.YteonppgdmhakoaaDoor.PC
namespace Go.Proofs.YteonppgdmhakoaaDoor.PC
open Go.RowKit Go.Proofs.YteonppgdmhakoaaDoorW.PrintWords Go.Proofs.YteonppgdmhakoaaDoorW.PrintLast Go.Proofs.YteonppgdmhakoaaDoorW.PrintMore
attribute [local go_sem] max2_int min2_int max_two min_two max_three min_three max_four min_four
set_option linter.unusedVariables false
set_option linter.unusedSimpArgs false
def fugueref00_WideFull.l0 : Nat → List Int → List Int → Int → Option (List Int)
 | 0, _, _, _ => none
 | k + 1, x0, x3, x4 => if x4 < (x3.length : Int) then (if 0 ≤ x4 then ((some (x3.set (x4 : Int).toNat ((wrap64 (170 + (Int.tmod x4 5))) % 256) : List Int)).bind fun y412 => (if x4 < (x0.length : Int) then (fugueref00_WideFull.l0 k x0 (y412.set (x4 : Int).toNat (rd x0 x4)) (wrap64 (x4 + 1))) else (fugueref00_WideFull.l0 k x0 y412 (wrap64 (x4 + 1))))) else (none)) else (if 0 ≤ (x0.length : Int) then (if (x0.length : Int) ≤ (x3.length : Int) then (some x3) else (none)) else (none))
def fugueref00_WideFull.f (k : Nat) (l0 : List Int) : Option (List Int) := if 0 ≤ (wrap64 ((l0.length : Int) + 64)) then (if (wrap64 ((l0.length : Int) + 64) : Int).toNat ≤ 281474976710656 then (fugueref00_WideFull.l0 k l0 (List.replicate (wrap64 ((l0.length : Int) + 64) : Int).toNat 0) 0) else (none)) else (none)
set_option maxHeartbeats 8000000 in
set_option maxRecDepth 100000 in
theorem fugueref00_WideFull.calls (k : Nat) (A0 : Option Addr) (c0 : Nat) (l0 : List Int) (r : List Int) (w : World) (hr0 : Kd.C (Kd.int .u8) w A0 l0.length l0) (hc0 : l0.length ≤ c0) (h : fugueref00_WideFull.f k l0 = some r) :
  Calls Tryd.prog 23 #[.slice A0 l0.length c0] w fun e w' => ∃ (A : Option Addr) (c : Nat), e = .returned (.slice A l0.length c) ∧ Kd.R (Kd.int .u8) 5 w' w.heap.size (fun _ => True) (.slice A r.length c) r ∧ l0.length ≤ r.length ∧ Below w.heap.size w w' := by
 have HR0 := Aside0.mk hr0
 have HC0 := Aside0.mk hc0
 clear hr0 hc0
 have HB := Aside0.mk (Below.refl w.heap.size w)
 have H : (if 0 ≤ (wrap64 ((l0.length : Int) + 64)) then (if (wrap64 ((l0.length : Int) + 64) : Int).toNat ≤ 281474976710656 then (fugueref00_WideFull.l0 k l0 (List.replicate (wrap64 ((l0.length : Int) + 64) : Int).toNat 0) 0) else (none)) else (none)) = some r := h
 clear h
 obtain ⟨ji2, hji2⟩ : ∃ j_ : Int, (wrap64 ((l0.length : Int) + 64)) = j_ := ⟨_, rfl⟩
 replace H : (if 0 ≤ (ji2) then (if (ji2 : Int).toNat ≤ 281474976710656 then (fugueref00_WideFull.l0 k l0 (List.replicate (ji2 : Int).toNat 0) 0) else (none)) else (none)) = some r := by first | (rw [hji2] at H; exact H) | (simp only [hji2] at H ⊢; exact H)
 have hji2w : (IntKind.i64.wrap ((l0.length : Int) + 64)) = ji2 := (i64_w _).trans hji2
 by_cases c3 : 0 ≤ (ji2)
 ·rw [if_pos c3] at H
  have c3b0 := eq_true c3
  have c3b1 : decide (0 ≤ (ji2)) = true := decide_eq_true c3
  clear c3
  by_cases c4 : (ji2 : Int).toNat ≤ 281474976710656
  ·rw [if_pos c4] at H
   have c4b0 := eq_true c4
   have c4b1 : decide ((ji2 : Int).toNat ≤ 281474976710656) = true := decide_eq_true c4
   clear c4
   obtain ⟨y409, hy409⟩ : ∃ y_ : List Int, y_ = (List.replicate (ji2 : Int).toNat 0) := ⟨_, rfl⟩
   replace H : (fugueref00_WideFull.l0 k l0 y409 0) = some r := by first | (rw [hy409]; with_reducible exact H) | (have H2_ := (Option.bind_some _ _).symm.trans H; rw [hy409]; with_reducible exact H2_) | (have H2_ := (Option.bind_some _ _).symm.trans H; with_reducible exact H2_) | with_reducible exact H | (rw [hy409]; exact H) | exact H
   have Ny409 := Aside0.mk hy409
   clear hy409
   have H' := Aside0.mk H
   clear H
   go_enter Tryd.func23, Tryd.ntmps23
   go_wp2_with (first | ((with_reducible refine gate_dst (N := 8) rfl ?_); refine Kd.R_make (Kd.int .u8) _ 5 rfl (N := 8) rfl 33 _ _ rfl ji2 rfl rfl Tryd.underlying33 (.int .u8 0) 1 info5 rfl (by decide) (by omega) 0 (ok := fun _ => True) (okp := fun _ => True) rfl (fun _ hk => hk) trivial (of_decide_eq_true (by first | (with_reducible assumption) | assumption)) (Nat.le_trans (Nat.mul_le_mul_right _ (of_decide_eq_true (by first | (with_reducible assumption) | assumption) : ji2.toNat ≤ 281474976710656)) (by omega)) (Below.refl _ _) (Nat.le_refl _) ?_; intro v410 w5 ho6 hb hg_ hnew_; clear hg_ hnew_; (first | rw [← Ny409.out] at ho6 | (simp only [Int.reduceToNat] at ho6; rw [← Ny409.out] at ho6)); have HO411 := Aside0.mk (Kd.R_lower ho6 (below_size (by repeat (first | (with_reducible first | exact HB.out | apply below_alloc | apply pw_below_drewN | apply below_drew1) | exact HB.out)))); replace HB := Aside0.mk (below_step (by repeat (first | (with_reducible first | exact HB.out | apply below_alloc | apply pw_below_drewN | apply below_drew1) | exact HB.out)) hb); clear hb ho6))
   go_loopg [4] k (fun kq v4 w' => ∃ (x3_1 : List Int) (x4_1 : Int), v4 = .int .i64 x4_1 ∧ Aside0 (fugueref00_WideFull.l0 kq l0 x3_1 x4_1 = some r) ∧ Aside0 (kq ≤ k) ∧ Aside0 (Kd.R (Kd.int .u8) 5 w' w.heap.size (fun _ => True) v410 x3_1) ∧ Aside0 (Below w.heap.size w w'))
   case atStart => exact ⟨(y409), (0), (by first | rfl | (simp; done) | (simp [*]; done)), H', ⟨Nat.le_refl _⟩, ⟨by (with_reducible repeat (first | apply Kd.R_alloc | apply Kd.R_drewN | apply Kd.R_drew)); exact HO411.out⟩, ⟨by repeat (first | (with_reducible first | exact HB.out | apply below_alloc | apply pw_below_drewN | apply below_drew1) | exact HB.out)⟩⟩
   case round =>
    clear H'
    try clear c2
    try clear p2
    try clear c3
    try clear c3b0
    try clear c3b1
    try clear c4
    try clear c4b0
    try clear c4b1
    try clear p6
    obtain ⟨x3_1, x4_1, rfl, HA, HK1, HO_3, HB⟩ := hrel
    cases gk with
    | zero => exact absurd HA.out (by simp [fugueref00_WideFull.l0])
    | succ k1 =>
     have H := HA.out
     clear HA
     simp only [fugueref00_WideFull.l0] at H
     by_cases c7 : x4_1 < (x3_1.length : Int)
     ·rw [if_pos c7] at H
      have c7b0 : decide (x4_1 < (x3_1.length : Int)) = true := decide_eq_true c7
      clear c7
      by_cases c8 : 0 ≤ x4_1
      ·rw [if_pos c8] at H
       have c8b0 : decide (0 ≤ x4_1) = true := decide_eq_true c8
       clear c8
       obtain ⟨y412, hy412⟩ : ∃ y_ : List Int, y_ = (x3_1.set (x4_1 : Int).toNat ((wrap64 (170 + (Int.tmod x4_1 5))) % 256)) := ⟨_, rfl⟩
       replace H : (if x4_1 < (l0.length : Int) then (fugueref00_WideFull.l0 k1 l0 (y412.set (x4_1 : Int).toNat (rd l0 x4_1)) (wrap64 (x4_1 + 1))) else (fugueref00_WideFull.l0 k1 l0 y412 (wrap64 (x4_1 + 1)))) = some r := by first | (rw [hy412]; with_reducible exact H) | (have H2_ := (Option.bind_some _ _).symm.trans H; rw [hy412]; with_reducible exact H2_) | (have H2_ := (Option.bind_some _ _).symm.trans H; with_reducible exact H2_) | with_reducible exact H | (rw [hy412]; exact H) | exact H
       have Ny412 := Aside0.mk hy412
       clear hy412
       by_cases c10 : x4_1 < (l0.length : Int)
       ·rw [if_pos c10] at H
        have c10b0 : decide (x4_1 < (l0.length : Int)) = true := decide_eq_true c10
        clear c10
        obtain ⟨y414, hy414⟩ : ∃ y_ : List Int, y_ = (y412.set (x4_1 : Int).toNat (rd l0 x4_1)) := ⟨_, rfl⟩
        replace H : (fugueref00_WideFull.l0 k1 l0 y414 (wrap64 (x4_1 + 1))) = some r := by first | (rw [hy414]; with_reducible exact H) | (have H2_ := (Option.bind_some _ _).symm.trans H; rw [hy414]; with_reducible exact H2_) | (have H2_ := (Option.bind_some _ _).symm.trans H; with_reducible exact H2_) | with_reducible exact H | (rw [hy414]; exact H) | exact H
        have Ny414 := Aside0.mk hy414
        clear hy414
        have H' := Aside0.mk H
        clear H
        obtain ⟨Ao12, co12, eo12⟩ := Kd.R_slice HO_3.out
        subst eo12
        have p9 : 0 ≤ (x4_1 : Int) := of_decide_eq_true (by first | (with_reducible assumption) | assumption)
        have q9 : (x4_1 : Int) < ((x3_1.length : Int) : Int) := of_decide_eq_true (by first | (with_reducible assumption) | assumption)
        obtain ⟨go9, co9, eo9, gb9, gl9, cl9, HG9⟩ := Kd.R_form HO_3.out (by omega)
        (first | cases eo9 | (injection eo9 with ea_ en_ ec_; (first | subst ea_ | (injection ea_ with ea_; subst ea_)); subst ec_; clear en_))
        have GB9 := Aside0.mk gb9
        have GG9 := Aside0.mk HG9
        clear gb9 gl9 HG9
        obtain ⟨hx9_0, hf9_0⟩ := Kd.R_celln 0 HO_3.out (x4_1 : Int) p9 q9
        replace p9 := eq_true p9
        replace q9 := eq_true q9
        have HP13 := Kd.R_putg HO_3.out (x4_1 : Int) ((wrap64 (170 + (Int.tmod x4_1 5))) % 256)
        go_wp2_with (first | ((with_reducible refine gate_store (t := 5) (p := 21) rfl ?_); refine store_event (t := 5) (p := 21) (v := ?vo_w14) (w1 := (wr.setCell ⟨go9, (x4_1 : Int).toNat, none⟩ (.int .u8 ((wrap64 (170 + (Int.tmod x4_1 5))) % 256)))) ?hg ?ho ?hn ?hr ?_; (case ho => rfl); (case hg => rfl); (case hn => rfl); (case hr => first | (go_simp; done) | (go_simp; rfl)); intro w14 hw; have hg : wr.grownBy w14 (some go9) := (by rw [hw]; exact HP13.2); have hp_ : Kd.R (Kd.int .u8) 5 w14 w.heap.size (fun _ => True) (.slice (some ⟨go9, 0, none⟩) x3_1.length co12) y412 := (by rw [hw, Ny412.out]; exact HP13.1); clear HP13; replace HO_3 := Aside0.mk (hp_); replace HB := Aside0.mk ((by rw [hw]; exact below_set (HB.out) GB9.out : Below w.heap.size w w14)); clear hg hw hp_; have p413 : 0 ≤ (x4_1 : Int) := of_decide_eq_true (by first | (with_reducible assumption) | assumption); have q413 : x4_1 < (l0.length : Int) := of_decide_eq_true (by first | (with_reducible assumption) | assumption); obtain ⟨ad413, e413, hx413_0⟩ := Kd.at_int HR0.out x4_1 p413 q413; cases e413; replace hx413_0 := (HB.out.cell (World.block_lt_of_cell? w _ hx413_0)).trans hx413_0; replace p413 := eq_true p413; replace q413 := eq_true q413; have p11 : 0 ≤ (x4_1 : Int) := of_decide_eq_true (by first | (with_reducible assumption) | assumption); have q11 : (x4_1 : Int) < ((x3_1.length : Int) : Int) := of_decide_eq_true (by first | (with_reducible assumption) | assumption); obtain ⟨hx11_0, hf11_0⟩ := Kd.R_celln 0 HO_3.out (x4_1 : Int) p11 q11; replace p11 := eq_true p11; replace q11 := eq_true q11; obtain ⟨hy15_, hz15_⟩ := Kd.R_celln 0 HO_3.out (x4_1 : Int) (of_decide_eq_true (by first | (with_reducible assumption) | assumption)) (of_decide_eq_true (by first | (with_reducible assumption) | assumption)); have HP15 := Kd.R_putg HO_3.out (x4_1 : Int) (rd l0 x4_1)) | ((with_reducible refine gate_store (t := 5) (p := 32) rfl ?_); refine store_event (t := 5) (p := 32) (v := ?vo_w16) (w1 := (w14.setCell ⟨go9, (x4_1 : Int).toNat, none⟩ (.int .u8 (rd l0 x4_1)))) ?hg ?ho ?hn ?hr ?_; (case ho => rfl); (case hg => rfl); (case hn => rfl); (case hr => first | (go_simp; done) | (go_simp; rfl)); intro w16 hw; have hg : w14.grownBy w16 (some go9) := (by rw [hw]; exact HP15.2); have hp_ : Kd.R (Kd.int .u8) 5 w16 w.heap.size (fun _ => True) (.slice (some ⟨go9, 0, none⟩) x3_1.length co12) y414 := (by rw [hw, Ny414.out]; exact HP15.1); clear HP15; replace HO_3 := Aside0.mk (hp_); replace HB := Aside0.mk ((by rw [hw]; exact below_set (HB.out) GB9.out : Below w.heap.size w w16)); clear hg hw hp_))
        go_roundg k1
        case measure => have := HK1.out; omega
        case rel => exact ⟨(y414), (wrap64 (x4_1 + 1)), (by first | rfl | (simp; done) | (simp [*]; done)), H', ⟨by have := HK1.out; omega⟩, ⟨by (with_reducible repeat (first | apply Kd.R_alloc | apply Kd.R_drewN | apply Kd.R_drew)); exact HO_3.out⟩, ⟨by repeat (first | (with_reducible first | exact HB.out | apply below_alloc | apply pw_below_drewN | apply below_drew1) | exact HB.out)⟩⟩
       ·rw [if_neg c10] at H
        have c10b0 : decide (x4_1 < (l0.length : Int)) = false := decide_eq_false c10
        clear c10
        have H' := Aside0.mk H
        clear H
        obtain ⟨Ao17, co17, eo17⟩ := Kd.R_slice HO_3.out
        subst eo17
        have p9 : 0 ≤ (x4_1 : Int) := of_decide_eq_true (by first | (with_reducible assumption) | assumption)
        have q9 : (x4_1 : Int) < ((x3_1.length : Int) : Int) := of_decide_eq_true (by first | (with_reducible assumption) | assumption)
        obtain ⟨go9, co9, eo9, gb9, gl9, cl9, HG9⟩ := Kd.R_form HO_3.out (by omega)
        (first | cases eo9 | (injection eo9 with ea_ en_ ec_; (first | subst ea_ | (injection ea_ with ea_; subst ea_)); subst ec_; clear en_))
        have GB9 := Aside0.mk gb9
        have GG9 := Aside0.mk HG9
        clear gb9 gl9 HG9
        obtain ⟨hx9_0, hf9_0⟩ := Kd.R_celln 0 HO_3.out (x4_1 : Int) p9 q9
        replace p9 := eq_true p9
        replace q9 := eq_true q9
        have HP18 := Kd.R_putg HO_3.out (x4_1 : Int) ((wrap64 (170 + (Int.tmod x4_1 5))) % 256)
        go_wp2_with (first | ((with_reducible refine gate_store (t := 5) (p := 21) rfl ?_); refine store_event (t := 5) (p := 21) (v := ?vo_w19) (w1 := (wr.setCell ⟨go9, (x4_1 : Int).toNat, none⟩ (.int .u8 ((wrap64 (170 + (Int.tmod x4_1 5))) % 256)))) ?hg ?ho ?hn ?hr ?_; (case ho => rfl); (case hg => rfl); (case hn => rfl); (case hr => first | (go_simp; done) | (go_simp; rfl)); intro w19 hw; have hg : wr.grownBy w19 (some go9) := (by rw [hw]; exact HP18.2); have hp_ : Kd.R (Kd.int .u8) 5 w19 w.heap.size (fun _ => True) (.slice (some ⟨go9, 0, none⟩) x3_1.length co17) y412 := (by rw [hw, Ny412.out]; exact HP18.1); clear HP18; replace HO_3 := Aside0.mk (hp_); replace HB := Aside0.mk ((by rw [hw]; exact below_set (HB.out) GB9.out : Below w.heap.size w w19)); clear hg hw hp_))
        go_roundg k1
        case measure => have := HK1.out; omega
        case rel => exact ⟨(y412), (wrap64 (x4_1 + 1)), (by first | rfl | (simp; done) | (simp [*]; done)), H', ⟨by have := HK1.out; omega⟩, ⟨by (with_reducible repeat (first | apply Kd.R_alloc | apply Kd.R_drewN | apply Kd.R_drew)); exact HO_3.out⟩, ⟨by repeat (first | (with_reducible first | exact HB.out | apply below_alloc | apply pw_below_drewN | apply below_drew1) | exact HB.out)⟩⟩
      ·rw [if_neg c8] at H
       exact absurd H (by simp)
     ·rw [if_neg c7] at H
      have c7b0 : decide (x4_1 < (x3_1.length : Int)) = false := decide_eq_false c7
      clear c7
      by_cases c20 : 0 ≤ (l0.length : Int)
      ·rw [if_pos c20] at H
       have c20b0 := eq_true c20
       have c20b1 : decide (0 ≤ (l0.length : Int)) = true := decide_eq_true c20
       clear c20
       by_cases c21 : (l0.length : Int) ≤ (x3_1.length : Int)
       ·rw [if_pos c21] at H
        have c21b0 := eq_true c21
        have c21b1 : decide ((l0.length : Int) ≤ (x3_1.length : Int)) = true := decide_eq_true c21
        clear c21
        obtain ⟨y415, hy415⟩ : ∃ y_ : List Int, y_ = (x3_1.take ((l0.length : Int) : Int).toNat) := ⟨_, rfl⟩
        have Ny415 := Aside0.mk hy415
        clear hy415
        obtain rfl := Option.some.inj H
        obtain ⟨Ao22, co22, eo22⟩ := Kd.R_slice HO_3.out
        subst eo22
        have q23 : ((l0.length : Int) : Int) ≤ ((x3_1.length : Int) : Int) := of_decide_eq_true (by first | (with_reducible assumption) | assumption)
        obtain ⟨i023, hi023, _, hsz23, _⟩ := info_parts info5
        have hcut23 := cut_to (P := Tryd.prog) 33 5 .i64 Tryd.underlying33 hi023 Ao22 x3_1.length co22 (l0.length : Int) (of_decide_eq_true (by first | (with_reducible assumption) | assumption)) q23 (Kd.R_reads' HO_3.out).2.1
        have hr23 := Kd.R_take (m := ((l0.length : Int) : Int).toNat) HO_3.out (by omega)
        have hy23 : y415.length = ((l0.length : Int) : Int).toNat := (by rw [Ny415.out, List.length_take]; omega)
        rw [← Ny415.out] at hr23
        have HYl : Aside0 (l0.length = (x3_1.take ((l0.length : Int) : Int).toNat).length) := ⟨by rw [List.length_take]; omega⟩
        rw [← hy23] at hr23 hcut23
        clear hy23 hi023 hsz23
        have HO417 := Aside0.mk hr23
        clear hr23
        replace q23 := eq_true q23
        go_wp2
        go_ret
        refine ⟨Ao22, co22, ?_, HO_3.out, by have h_ := of_eq_true c21b0; omega, HB.out⟩
        rw [Ny415.out, ← HYl.out]
        rfl
       ·rw [if_neg c21] at H
        exact absurd H (by simp)
      ·rw [if_neg c20] at H
       exact absurd H (by simp)
  ·rw [if_neg c4] at H
   exact absurd H (by simp)
 ·rw [if_neg c3] at H
  exact absurd H (by simp)
theorem cut_cap {P : Program} (t e : TypeId) (kh : IntKind) {i : TypeInfo} (ht : P.underlying t = some (.slice e)) (hi : P.info? e = some i) (A : Option Addr) (n c : Nat) (j : Int) (h0 : 0 ≤ j) (hm : j ≤ c) :
  ∀ W : World, (Instr.slice t (.slice A n c) none (some (.int kh j)) none).run P W = .ok (.slice A j.toNat c) W := by
 intro W
 have hel : P.elem t = e := by simp [Program.elem, ht]
 have hu : P.underlying t = some (.slice (P.elem t)) := by rw [hel]; exact ht
 have ha : (A.map fun x => x.add 0) = A := by cases A <;> simp [Addr.add]
 rw [run_slice_h W t A n c hu kh j h0 hm, hel]
 simp [sizeOf, typeInfo, hi, sliced, Result.andThen, ha]
def markV (i : Int) : Int := (wrap64 (170 + (Int.tmod i 5))) % 256
def marks (n : Nat) : List Int := (List.range 64).map fun j => markV ((n + j : Nat) : Int)
def wideAt (l : List Int) (j : Nat) : Int := if j < l.length then l.getD j 0 else markV (j : Int)
def wideL (l : List Int) (i : Nat) : List Int := (List.range (l.length + 64)).map fun j => if j < i then wideAt l j else 0
theorem wideL_len (l : List Int) (i : Nat) : (wideL l i).length = l.length + 64 := by unfold wideL; rw [List.length_map, List.length_range]
theorem wideL_at (l : List Int) (i j : Nat) (h : j < l.length + 64) : (wideL l i)[j]? = some (if j < i then wideAt l j else 0) := by
 unfold wideL
 rw [List.getElem?_map, List.getElem?_range h]
 rfl
theorem wideL_set (l : List Int) (i : Nat) (h : i < l.length + 64) : (wideL l i).set i (wideAt l i) = wideL l (i + 1) := by
 apply List.ext_getElem?
 intro j
 by_cases hj : j < l.length + 64
 ·rw [wideL_at l (i + 1) j hj]
  by_cases e : j = i
  ·subst e
   rw [List.getElem?_set_self (by rw [wideL_len]; exact hj), if_pos (Nat.lt_succ_self j)]
  ·rw [List.getElem?_set_ne (fun h => e h.symm), wideL_at l i j hj]
   by_cases hi : j < i
   ·rw [if_pos hi, if_pos (by omega)]
   ·rw [if_neg hi, if_neg (by omega)]
 ·rw [List.getElem?_eq_none (by rw [List.length_set, wideL_len]; omega), List.getElem?_eq_none (by rw [wideL_len]; omega)]
theorem wideL_zero (l : List Int) : wideL l 0 = List.replicate (l.length + 64) 0 := by
 apply List.ext_getElem?
 intro j
 by_cases hj : j < l.length + 64
 ·rw [wideL_at l 0 j hj, if_neg (Nat.not_lt_zero j), List.getElem?_replicate, if_pos hj]
 ·rw [List.getElem?_eq_none (by rw [wideL_len]; omega), List.getElem?_eq_none (by rw [List.length_replicate]; omega)]
theorem marks_len (n : Nat) : (marks n).length = 64 := by unfold marks; rw [List.length_map, List.length_range]
theorem wideL_all (l : List Int) : wideL l (l.length + 64) = l ++ marks l.length := by
 apply List.ext_getElem?
 intro j
 by_cases hj : j < l.length + 64
 ·rw [wideL_at l _ j hj, if_pos hj]
  unfold wideAt
  by_cases hl : j < l.length
  ·rw [if_pos hl, List.getElem?_append_left hl, List.getD_eq_getElem?_getD, List.getElem?_eq_getElem hl]
   rfl
  ·rw [if_neg hl, List.getElem?_append_right (by omega)]
   unfold marks
   rw [List.getElem?_map, List.getElem?_range (by omega)]
   show some (markV (j : Int)) = some (markV ((l.length + (j - l.length) : Nat) : Int))
   rw [show l.length + (j - l.length) = j by omega]
 ·rw [List.getElem?_eq_none (by rw [wideL_len]; omega), List.getElem?_eq_none (by rw [List.length_append, marks_len]; omega)]
theorem wide_ev (l : List Int) (hl : l.length ≤ 140737488351232) : Ev (fun k => fugueref00_WideFull.f k l) (l ++ marks l.length) := by
 have hw : wrap64 ((l.length : Int) + 64) = ((l.length + 64 : Nat) : Int) := by rw [wrap_in (by omega) (by omega)]; omega
 have gen : ∀ (d i : Nat), l.length + 64 - i = d → i ≤ l.length + 64 → Ev (fun k => fugueref00_WideFull.l0 k l (wideL l i) (i : Int)) (l ++ marks l.length) := by
  intro d
  induction d with
  | zero =>
   intro i hd hi
   have e : i = l.length + 64 := by omega
   subst e
   refine Ev.step (f := fun _ => some (l ++ marks l.length)) (fun k => by
    simp only [fugueref00_WideFull.l0]
    rw [if_neg (by rw [wideL_len]; omega), if_pos (by omega), if_pos (by rw [wideL_len]; omega), wideL_all]) (Ev.now _)
  | succ d ih =>
   intro i hd hi
   have hlt : i < l.length + 64 := by omega
   have hwp : wrap64 ((i : Int) + 1) = ((i + 1 : Nat) : Int) := by rw [wrap_in (by omega) (by omega)]; omega
   by_cases hn : i < l.length
   ·refine Ev.step (f := fun k => fugueref00_WideFull.l0 k l (wideL l (i + 1)) ((i + 1 : Nat) : Int)) (fun k => by
     simp only [fugueref00_WideFull.l0]
     rw [if_pos (by rw [wideL_len]; omega), if_pos (by omega), Option.bind_some, if_pos (by omega), hwp, Int.toNat_natCast, List.set_set, rd_get l i hn]
     have e : l[i] = wideAt l i := by unfold wideAt; rw [if_pos hn, List.getD_eq_getElem?_getD, List.getElem?_eq_getElem hn]; rfl
     rw [e, wideL_set l i hlt]) (ih (i + 1) (by omega) (by omega))
   ·refine Ev.step (f := fun k => fugueref00_WideFull.l0 k l (wideL l (i + 1)) ((i + 1 : Nat) : Int)) (fun k => by
     simp only [fugueref00_WideFull.l0]
     rw [if_pos (by rw [wideL_len]; omega), if_pos (by omega), Option.bind_some, if_neg (by omega), hwp, Int.toNat_natCast]
     have e : (wrap64 (170 + (Int.tmod (i : Int) 5))) % 256 = wideAt l i := by unfold wideAt; rw [if_neg hn]; rfl
     rw [e, wideL_set l i hlt]) (ih (i + 1) (by omega) (by omega))
 unfold fugueref00_WideFull.f
 refine Ev.congr (f := fun k => fugueref00_WideFull.l0 k l (wideL l 0) ((0 : Nat) : Int)) (fun k => ?_) (gen (l.length + 64) 0 (by omega) (by omega))
 simp only [hw]
 rw [if_pos (by omega), if_pos (by rw [Int.toNat_natCast]; omega), Int.toNat_natCast, ← wideL_zero]
 rfl
def fugueref00_WideBytes.f (l0 : List Int) : Option (List Int) := if l0.length ≤ 140737488351232 then some l0 else none
theorem fugueref00_WideBytes.calls (A0 : Option Addr) (c0 : Nat) (l0 : List Int) (r : List Int) (w : World) (hr0 : Kd.C (Kd.int .u8) w A0 l0.length l0) (hc0 : l0.length ≤ c0) (h : fugueref00_WideBytes.f l0 = some r) :
  Calls Tryd.prog 23 #[.slice A0 l0.length c0] w fun e w' => ∃ v0_ : Value, e = .returned (v0_) ∧ Kd.R (Kd.int .u8) 5 w' w.heap.size (fun _ => True) v0_ r ∧ Below w.heap.size w w' ∧ (∀ A c, v0_ = .slice A r.length c → Kd.R (Kd.int .u8) 5 w' w.heap.size (fun _ => True) (.slice A (r ++ marks r.length).length c) (r ++ marks r.length)) := by
 unfold fugueref00_WideBytes.f at h
 by_cases hl : l0.length ≤ 140737488351232
 ·rw [if_pos hl] at h
  injection h with h
  subst h
  obtain ⟨k, hk⟩ := (wide_ev l0 hl).rounds
  refine (fugueref00_WideFull.calls k A0 c0 l0 _ w hr0 hc0 hk).mono ?_
  rintro e w' ⟨A, c, rfl, hR, hle, hB⟩
  refine ⟨_, rfl, ?_, hB, fun A' c' e => ?_⟩
  ·have h := Kd.R_take (m := l0.length) hR (by omega)
   rw [List.take_left' rfl] at h
   exact h
  ·injection e with e1 e2 e3
   subst e1 e3
   exact hR
 ·rw [if_neg hl] at h
  cases h
def fugueref00_SpareBytes.f (l0 : List Int) : Option Bool := if l0.length ≤ 140737488351232 then some true else none
theorem fugueref00_SpareBytes.calls (A0 : Option Addr) (c0 : Nat) (l0 : List Int) (r : Bool) (w : World) (hr0 : Kd.C (Kd.int .u8) w A0 l0.length l0) (hc0 : l0.length ≤ c0) (h : fugueref00_SpareBytes.f l0 = some r) (hS : Kd.C (Kd.int .u8) w A0 (l0 ++ marks l0.length).length (l0 ++ marks l0.length)) (hS2 : (l0 ++ marks l0.length).length ≤ c0) :
  Calls Tryd.prog 26 #[.slice A0 l0.length c0] w fun e w' => e = .returned (.bool r) ∧ Drawn0 w w' := by
 unfold fugueref00_SpareBytes.f at h
 by_cases hl : l0.length ≤ 140737488351232
 ·rw [if_pos hl] at h
  injection h with h
  subst h
  obtain ⟨n, hn⟩ : ∃ n, n = l0.length := ⟨_, rfl⟩
  obtain ⟨m, hm⟩ : ∃ m, m = n + 64 := ⟨_, rfl⟩
  have hlen : (l0 ++ marks l0.length).length = m := by rw [List.length_append, marks_len]; omega
  rw [hlen] at hS2
  have HS : Aside0 (Kd.C (Kd.int .u8) w A0 m (l0 ++ marks n)) := ⟨by rw [← hlen, hn]; exact hS⟩
  have hw : wrap64 ((n : Int) + 64) = (m : Int) := by rw [wrap_in (by omega) (by omega)]; omega
  have HL : Aside0 (n = l0.length ∧ m = n + 64 ∧ n ≤ 140737488351232) := ⟨hn, hm, by omega⟩
  rw [← hn]
  obtain ⟨i0, hi0, _, hsz, _⟩ := info_parts info5
  have hcut := cut_cap (P := Tryd.prog) 33 5 .i64 Tryd.underlying33 hi0 A0 n c0 (m : Int) (Int.natCast_nonneg m) (by omega)
  rw [Int.toNat_natCast] at hcut
  have HCut := Aside0.mk hcut
  clear hr0 hc0 hS hS2 hlen hi0 hsz hn hm hl hcut
  go_enter Tryd.func26, Tryd.ntmps26
  have hcut := HCut.out
  go_wp2_with fail
  go_loopw [4] (fun v4 w' => ∃ q : Nat, n ≤ q ∧ q ≤ m ∧ v4 = .int .i64 (q : Int) ∧ w' = w) (fun i _ => m - (intOf i).toNat)
  case atStart => exact ⟨n, Nat.le_refl _, by have := HL.out; omega, rfl, rfl⟩
  case round =>
   obtain ⟨q, hq0, hq, rfl, rfl⟩ := hrel
   by_cases hlt : q < m
   ·have p0 : (0 : Int) ≤ (q : Int) := Int.natCast_nonneg q
    have p1 : (q : Int) < (m : Int) := Int.ofNat_lt.2 hlt
    have hwp : wrap64 ((q : Int) + 1) = (q : Int) + 1 := wrap_in (by omega) (by have := HL.out; omega)
    obtain ⟨ad, had, hx⟩ := Kd.at_int HS.out (q : Int) p0 p1
    subst had
    rw [Int.toNat_natCast] at hx
    have hv : rd (l0 ++ marks n) (q : Int) = markV (q : Int) := by
     have := HL.out
     rw [rd_get _ q (by rw [List.length_append, marks_len]; omega), List.getElem_append_right (by omega)]
     unfold marks
     rw [List.getElem_map, List.getElem_range]
     rw [show n + (q - l0.length) = q by omega]
    have hm5 : markV (q : Int) = 170 + (q : Int) % 5 := by
     unfold markV
     rw [Int.tmod_eq_emod_of_nonneg p0, wrap_in (by omega) (by omega)]
     omega
    rw [hv, hm5] at hx
    have HLt := Aside0.mk hlt
    clear hv hm5 hlt hq hcut
    go_wp2_with fail
    go_roundw
    case rel => exact ⟨q + 1, by omega, by have := HLt.out; omega, by go_num, by first | trivial | rfl⟩
    case measure => rw [hwp]; exact Nat.sub_lt_sub_left (show q < m from HLt.out) (show q < q + 1 from Nat.lt_succ_self q)
   ·obtain rfl : q = m := by omega
    clear hcut
    go_wp2_with fail
    go_ret
    exact ⟨rfl, 0, rfl⟩
 ·rw [if_neg hl] at h
  cases h
end Go.Proofs.YteonppgdmhakoaaDoor.PC
namespace Go.Proofs.YteonppgdmhakoaaDoor.PC
open Go.RowKit Go.Proofs.YteonppgdmhakoaaDoorW.PrintWords Go.Proofs.YteonppgdmhakoaaDoorW.PrintLast Go.Proofs.YteonppgdmhakoaaDoorW.PrintMore
attribute [local go_sem] max2_int min2_int max_two min_two max_three min_three max_four min_four
set_option linter.unusedVariables false
set_option linter.unusedSimpArgs false
def fugueref00_CopyBytes.l0 : Nat → List Int → List Int → Int → Option (List Int)
 | 0, _, _, _ => none
 | k + 1, x0, x3, x4 => if x4 < (x0.length : Int) then (if 0 ≤ x4 then (if x3.length < 140737488355328 then (fugueref00_CopyBytes.l0 k x0 (x3 ++ [rd x0 x4]) (wrap64 (x4 + 1))) else (none)) else (none)) else (some x3)
def fugueref00_CopyBytes.f (k : Nat) (l0 : List Int) : Option (List Int) := fugueref00_CopyBytes.l0 k l0 ([] : List Int) 0
set_option maxHeartbeats 8000000 in
set_option maxRecDepth 100000 in
theorem fugueref00_CopyBytes.calls (k : Nat) (A0 : Option Addr) (c0 : Nat) (l0 : List Int) (r : List Int) (w : World) (hr0 : Kd.C (Kd.int .u8) w A0 l0.length l0) (hc0 : l0.length ≤ c0) (h : fugueref00_CopyBytes.f k l0 = some r) :
  Calls Tryd.prog 27 #[.slice A0 l0.length c0] w fun e w' => ∃ v0_ : Value, e = .returned (v0_) ∧ Kd.R (Kd.int .u8) 5 w' w.heap.size (fun _ => True) v0_ r ∧ Below w.heap.size w w' := by
 have HR0 := Aside0.mk hr0
 have HC0 := Aside0.mk hc0
 clear hr0 hc0
 have HB := Aside0.mk (Below.refl w.heap.size w)
 have H : (fugueref00_CopyBytes.l0 k l0 ([] : List Int) 0) = some r := h
 clear h
 have H' := Aside0.mk H
 clear H
 go_enter Tryd.func27, Tryd.ntmps27
 go_wp2
 go_loopg [3, 4] k (fun kq v3 v4 w' => ∃ (x3_1 : List Int) (x4_1 : Int), v4 = .int .i64 x4_1 ∧ Aside0 (fugueref00_CopyBytes.l0 kq l0 x3_1 x4_1 = some r) ∧ Aside0 (kq ≤ k) ∧ Aside0 (Kd.R (Kd.int .u8) 5 w' w.heap.size (fun _ => True) v3 x3_1) ∧ Aside0 (Below w.heap.size w w'))
 case atStart => exact ⟨(([] : List Int)), (0), (by first | rfl | (simp; done) | (simp [*]; done)), H', ⟨Nat.le_refl _⟩, ⟨by first | exact Kd.R_nil _ _ _ _ _ | exact Kd.N_nil _ _ _ _ _ | exact Kd.V_nil _ _ _ _ _ | exact Kd.Q_nil _ _ _ _ _ | exact Kd.S_nil _ _ _ _ _⟩, ⟨by repeat (first | (with_reducible first | exact HB.out | apply below_alloc | apply pw_below_drewN | apply below_drew1) | exact HB.out)⟩⟩
 case round =>
  clear H'
  obtain ⟨x3_1, x4_1, rfl, HA, HK1, HO_3, HB⟩ := hrel
  cases gk with
  | zero => exact absurd HA.out (by simp [fugueref00_CopyBytes.l0])
  | succ k1 =>
   have H := HA.out
   clear HA
   simp only [fugueref00_CopyBytes.l0] at H
   by_cases c2 : x4_1 < (l0.length : Int)
   ·rw [if_pos c2] at H
    have c2b0 : decide (x4_1 < (l0.length : Int)) = true := decide_eq_true c2
    clear c2
    by_cases c3 : 0 ≤ x4_1
    ·rw [if_pos c3] at H
     have c3b0 : decide (0 ≤ x4_1) = true := decide_eq_true c3
     clear c3
     by_cases c4 : x3_1.length < 140737488355328
     ·rw [if_pos c4] at H
      have LMc4 := Aside0.mk c4
      clear c4
      obtain ⟨y217, hy217⟩ : ∃ y_ : List Int, y_ = (x3_1 ++ [rd l0 x4_1]) := ⟨_, rfl⟩
      replace H : (fugueref00_CopyBytes.l0 k1 l0 y217 (wrap64 (x4_1 + 1))) = some r := by first | (rw [hy217]; with_reducible exact H) | (have H2_ := (Option.bind_some _ _).symm.trans H; rw [hy217]; with_reducible exact H2_) | (have H2_ := (Option.bind_some _ _).symm.trans H; with_reducible exact H2_) | with_reducible exact H | (rw [hy217]; exact H) | exact H
      have Ny217 := Aside0.mk hy217
      clear hy217
      have H' := Aside0.mk H
      clear H
      have p216 : 0 ≤ (x4_1 : Int) := of_decide_eq_true (by first | (with_reducible assumption) | assumption)
      have q216 : x4_1 < (l0.length : Int) := of_decide_eq_true (by first | (with_reducible assumption) | assumption)
      obtain ⟨ad216, e216, hx216_0⟩ := Kd.at_int HR0.out x4_1 p216 q216
      cases e216
      replace hx216_0 := (HB.out.cell (World.block_lt_of_cell? w _ hx216_0)).trans hx216_0
      replace p216 := eq_true p216
      replace q216 := eq_true q216
      go_wp2_with (first | ((with_reducible refine gate_builtin (b := .append) (xs := #[.tmp 11, .tmp 16]) rfl ?_); at_builtin; refine Kd.R_append (Kd.int .u8) (w0 := w) w.heap.size rfl (.tmp 11) (.tmp 16) 33 5 (.int .u8 0) 1 rfl Tryd.underlying33 info5 rfl (by decide) (by omega) u3 x3_1 (rd l0 x4_1) [.int .u8 (rd l0 x4_1)] (fun _ => True) (fun _ => False) rfl rfl ?aP (fun _ hk => hk.elim) ?aF ?aO ?aB ?aS ?aL ?_; (case aP => exact rfl); (case aB => exact (by repeat (first | (with_reducible first | exact HB.out | apply below_alloc | apply pw_below_drewN | apply below_drew1) | exact HB.out))); (case aF => exact (fun _ _ => trivial)); (case aO => exact (by (with_reducible repeat (first | apply Kd.R_alloc | apply Kd.R_drewN | apply Kd.R_drew)); exact HO_3.out)); (case aS => exact (below_size (by repeat (first | (with_reducible first | exact HB.out | apply below_alloc | apply pw_below_drewN | apply below_drew1) | exact HB.out)))); (case aL => have := LMc4.out; omega); intro v218 w5 ho hb hg hat; rw [← Ny217.out] at ho; replace HB := Aside0.mk (hb); have HO219 := Aside0.mk (ho); clear HO_3; clear ho hb hg hat))
      go_roundg k1
      case measure => have := HK1.out; omega
      case rel => exact ⟨(y217), (wrap64 (x4_1 + 1)), (by first | rfl | (simp; done) | (simp [*]; done)), H', ⟨by have := HK1.out; omega⟩, ⟨by (with_reducible repeat (first | apply Kd.R_alloc | apply Kd.R_drewN | apply Kd.R_drew)); exact HO219.out⟩, ⟨by repeat (first | (with_reducible first | exact HB.out | apply below_alloc | apply pw_below_drewN | apply below_drew1) | exact HB.out)⟩⟩
     ·rw [if_neg c4] at H
      exact absurd H (by simp)
    ·rw [if_neg c3] at H
     exact absurd H (by simp)
   ·rw [if_neg c2] at H
    have c2b0 : decide (x4_1 < (l0.length : Int)) = false := decide_eq_false c2
    clear c2
    obtain rfl := Option.some.inj H
    go_wp2
    go_ret
    exact ⟨_, by first | rfl | (simp [errW_none, errW_some] <;> rfl) | (simp [*, errW_none, errW_some] <;> rfl), by (with_reducible repeat (first | apply Kd.R_alloc | apply Kd.R_drewN | apply Kd.R_drew)); exact HO_3.out, by repeat (first | (with_reducible first | exact HB.out | apply below_alloc | apply pw_below_drewN | apply below_drew1) | exact HB.out)⟩
mutual
def fuguelaw01_CodeDecodes.j0 : Nat → Bool → List Int → Int → Int → Int → Int → Bool → Option (Bool)
 | 0, _, _, _, _, _, _, _ => none
 | k + 1, x3, x4, x6, x7, x9, x10, x11 => if x11 = true then (if x6 = x9 then (fuguelaw01_CodeDecodes.j1 k x3 x4 (x7 != x10)) else (fuguelaw01_CodeDecodes.j1 k x3 x4 true)) else (fuguelaw01_CodeDecodes.j1 k x3 x4 true)
def fuguelaw01_CodeDecodes.j1 : Nat → Bool → List Int → Bool → Option (Bool)
 | 0, _, _, _ => none
 | k + 1, x3, x4, x52 => if x52 = true then (some false) else (fuguelaw01_CodeDecodes.l0 k x3 x4 9)
def fuguelaw01_CodeDecodes.l0 : Nat → Bool → List Int → Int → Option (Bool)
 | 0, _, _, _ => none
 | k + 1, x3, x4, x12 => if x12 < (x4.length : Int) then (if 0 ≤ x12 then (fuguelaw01_CodeDecodes.l0 k x3 (x4.set (x12 : Int).toNat (Go.bits .xor .u8 (rd x4 x12) 1)) (wrap64 (x12 + 3))) else (none)) else ((fugueref00_CopyBytes.f k x4).bind fun t243 => ((code_Decode.f x4).bind fun bt246 => ((fugueref01_Decode.f t243).bind fun bt252 => ((fugueref00_EqProgram.f k bt246.1 bt246.2.1 bt252.1 bt252.2.1).bind fun t258 => (if x3 = true then (if t258 = true then (if bt246.2.2.1 = bt252.2.2.1 then (some (bt246.2.2.2 == bt252.2.2.2)) else (some false)) else (some false)) else (some false))))))
end
def fuguelaw01_CodeDecodes.f (k : Nat) (l0 : List Int) : Option (Bool) := (fuguelaw01_works.f k).bind fun t220 => ((fugueref00_WideBytes.f l0).bind fun t221 => ((code_Decode.f t221).bind fun bt224 => ((fugueref01_Decode.f l0).bind fun bt231 => ((fugueref00_EqProgram.f k bt224.1 bt224.2.1 bt231.1 bt231.2.1).bind fun t238 => (if t238 = true then ((fugueref00_EqBytes.f k t221 l0).bind fun t239 => (if t239 = true then ((fugueref00_SpareBytes.f t221).bind fun t240 => (fuguelaw01_CodeDecodes.j0 k t220 t221 bt224.2.2.1 bt224.2.2.2 bt231.2.2.1 bt231.2.2.2 t240)) else (fuguelaw01_CodeDecodes.j0 k t220 t221 bt224.2.2.1 bt224.2.2.2 bt231.2.2.1 bt231.2.2.2 false))) else (fuguelaw01_CodeDecodes.j0 k t220 t221 bt224.2.2.1 bt224.2.2.2 bt231.2.2.1 bt231.2.2.2 false))))))
theorem fuguelaw01_CodeDecodes.j1_no {k : Nat} {a : Bool} {b : List Int} {r : Bool} (h : fuguelaw01_CodeDecodes.j1 k a b true = some r) (hr : r = true) : False := by
 subst hr
 cases k <;> simp [fuguelaw01_CodeDecodes.j1] at h
theorem fuguelaw01_CodeDecodes.j0_no {k : Nat} {a : Bool} {b : List Int} {c d e f : Int} {r : Bool} (h : fuguelaw01_CodeDecodes.j0 k a b c d e f false = some r) (hr : r = true) : False := by
 cases k with
 | zero => simp [fuguelaw01_CodeDecodes.j0] at h
 | succ k =>
  simp only [fuguelaw01_CodeDecodes.j0] at h
  rw [if_neg (by decide)] at h
  exact fuguelaw01_CodeDecodes.j1_no h hr
set_option maxHeartbeats 8000000 in
set_option maxRecDepth 100000 in
theorem fuguelaw01_CodeDecodes.calls (k : Nat) (A0 : Option Addr) (c0 : Nat) (l0 : List Int) (r : Bool) (hr_ : r = true) (w : World) (hr0 : Kd.C (Kd.int .u8) w A0 l0.length l0) (hc0 : l0.length ≤ c0) (h : fuguelaw01_CodeDecodes.f k l0 = some r) (hT_ : Tab w) :
  Calls Tryd.prog 5 #[.slice A0 l0.length c0] w fun e w' => e = .returned (.bool r) ∧ Below w.heap.size w w' := by
 have hu24 := Tryd.underlying24
 have HR0 := Aside0.mk hr0
 have HC0 := Aside0.mk hc0
 clear hr0 hc0
 have HB := Aside0.mk (Below.refl w.heap.size w)
 have HTab := Aside0.mk hT_
 have H : ((fuguelaw01_works.f k).bind fun t220 => ((fugueref00_WideBytes.f l0).bind fun t221 => ((code_Decode.f t221).bind fun bt224 => ((fugueref01_Decode.f l0).bind fun bt231 => ((fugueref00_EqProgram.f k bt224.1 bt224.2.1 bt231.1 bt231.2.1).bind fun t238 => (if t238 = true then ((fugueref00_EqBytes.f k t221 l0).bind fun t239 => (if t239 = true then ((fugueref00_SpareBytes.f t221).bind fun t240 => (fuguelaw01_CodeDecodes.j0 k t220 t221 bt224.2.2.1 bt224.2.2.2 bt231.2.2.1 bt231.2.2.2 t240)) else (fuguelaw01_CodeDecodes.j0 k t220 t221 bt224.2.2.1 bt224.2.2.2 bt231.2.2.1 bt231.2.2.2 false))) else (fuguelaw01_CodeDecodes.j0 k t220 t221 bt224.2.2.1 bt224.2.2.2 bt231.2.2.1 bt231.2.2.2 false))))))) = some r := h
 clear h
 replace H := Option.bind_eq_some_iff.mp H
 obtain ⟨t220, A20, H⟩ := H
 replace H : ((fugueref00_WideBytes.f l0).bind fun t221 => ((code_Decode.f t221).bind fun bt224 => ((fugueref01_Decode.f l0).bind fun bt231 => ((fugueref00_EqProgram.f k bt224.1 bt224.2.1 bt231.1 bt231.2.1).bind fun t238 => (if t238 = true then ((fugueref00_EqBytes.f k t221 l0).bind fun t239 => (if t239 = true then ((fugueref00_SpareBytes.f t221).bind fun t240 => (fuguelaw01_CodeDecodes.j0 k t220 t221 bt224.2.2.1 bt224.2.2.2 bt231.2.2.1 bt231.2.2.2 t240)) else (fuguelaw01_CodeDecodes.j0 k t220 t221 bt224.2.2.1 bt224.2.2.2 bt231.2.2.1 bt231.2.2.2 false))) else (fuguelaw01_CodeDecodes.j0 k t220 t221 bt224.2.2.1 bt224.2.2.2 bt231.2.2.1 bt231.2.2.2 false)))))) = some r := H
 have A2 := Aside0.mk A20
 clear A20
 replace H := Option.bind_eq_some_iff.mp H
 obtain ⟨t221, A30, H⟩ := H
 replace H : ((code_Decode.f t221).bind fun bt224 => ((fugueref01_Decode.f l0).bind fun bt231 => ((fugueref00_EqProgram.f k bt224.1 bt224.2.1 bt231.1 bt231.2.1).bind fun t238 => (if t238 = true then ((fugueref00_EqBytes.f k t221 l0).bind fun t239 => (if t239 = true then ((fugueref00_SpareBytes.f t221).bind fun t240 => (fuguelaw01_CodeDecodes.j0 k t220 t221 bt224.2.2.1 bt224.2.2.2 bt231.2.2.1 bt231.2.2.2 t240)) else (fuguelaw01_CodeDecodes.j0 k t220 t221 bt224.2.2.1 bt224.2.2.2 bt231.2.2.1 bt231.2.2.2 false))) else (fuguelaw01_CodeDecodes.j0 k t220 t221 bt224.2.2.1 bt224.2.2.2 bt231.2.2.1 bt231.2.2.2 false))))) = some r := H
 have A3 := Aside0.mk A30
 clear A30
 replace H := Option.bind_eq_some_iff.mp H
 obtain ⟨⟨t224, t225, t228, t229⟩, A40, H⟩ := H
 replace H : ((fugueref01_Decode.f l0).bind fun bt231 => ((fugueref00_EqProgram.f k t224 t225 bt231.1 bt231.2.1).bind fun t238 => (if t238 = true then ((fugueref00_EqBytes.f k t221 l0).bind fun t239 => (if t239 = true then ((fugueref00_SpareBytes.f t221).bind fun t240 => (fuguelaw01_CodeDecodes.j0 k t220 t221 t228 t229 bt231.2.2.1 bt231.2.2.2 t240)) else (fuguelaw01_CodeDecodes.j0 k t220 t221 t228 t229 bt231.2.2.1 bt231.2.2.2 false))) else (fuguelaw01_CodeDecodes.j0 k t220 t221 t228 t229 bt231.2.2.1 bt231.2.2.2 false)))) = some r := H
 have A4 := Aside0.mk A40
 clear A40
 replace H := Option.bind_eq_some_iff.mp H
 obtain ⟨⟨t231, t232, t235, t236⟩, A50, H⟩ := H
 replace H : ((fugueref00_EqProgram.f k t224 t225 t231 t232).bind fun t238 => (if t238 = true then ((fugueref00_EqBytes.f k t221 l0).bind fun t239 => (if t239 = true then ((fugueref00_SpareBytes.f t221).bind fun t240 => (fuguelaw01_CodeDecodes.j0 k t220 t221 t228 t229 t235 t236 t240)) else (fuguelaw01_CodeDecodes.j0 k t220 t221 t228 t229 t235 t236 false))) else (fuguelaw01_CodeDecodes.j0 k t220 t221 t228 t229 t235 t236 false))) = some r := H
 have A5 := Aside0.mk A50
 clear A50
 have HC6 := Aside0.mk H
 clear H
 go_enter Tryd.func5, Tryd.ntmps5
 go_upto_region 5 with (first | ((with_reducible refine gate_callee (f := 10) rfl ?_); refine goesL_ (some 14) rfl rfl Tryd.func10 (by kernel_rfl) rfl #[] rfl (by (try simp only [List.map_toArray, List.map_cons, List.map_nil]); first | done | rfl | (simp only [List.length_drop, List.length_take]; rfl)) ?_; (with_reducible refine (fuguelaw01_works.calls k  t220 _ A2.out ?tab).mono ?_); (case tab => exact Tab.below HTab.out (by repeat (first | (with_reducible first | exact HB.out | apply below_alloc | apply pw_below_drewN | apply below_drew1) | exact HB.out))); rintro e w7 ⟨rfl, hb⟩; refine ⟨_, rfl, ?_⟩; replace HB := Aside0.mk (below_step (by repeat (first | (with_reducible first | exact HB.out | apply below_alloc | apply pw_below_drewN | apply below_drew1) | exact HB.out)) hb); (try clear hb); (try clear hb2); (try clear hk); (try clear hi)) | ((with_reducible refine gate_callee (f := 23) rfl ?_); refine goesL_ (some 16) rfl rfl Tryd.func23 (by kernel_rfl) rfl #[.slice A0 l0.length c0] rfl (by (try simp only [List.map_toArray, List.map_cons, List.map_nil]); first | done | rfl | (simp only [List.length_drop, List.length_take]; rfl)) ?_; (with_reducible refine (fugueref00_WideBytes.calls _ _ l0 t221 _ ?side1 ?side2 A3.out).mono ?_); (case side1 => repeat (first | exact (Kd.C_below HR0.out HB.out) | (with_reducible refine Kd.C_alloc ?_ _) | (with_reducible refine Kd.C_drewN ?_ _) | (with_reducible refine Kd.C_drew ?_))); (case side2 => exact HC0.out); rintro e w8 ⟨v222, rfl, ho0, hb, hsp⟩; refine ⟨_, rfl, ?_⟩; have n0_ := Aside0.mk (Kd.R_lower ho0 (below_size (by repeat (first | (with_reducible first | exact HB.out | apply below_alloc | apply pw_below_drewN | apply below_drew1) | exact HB.out)))); have nS_ := Aside0.mk (fun A_ c_ e_ => Kd.R_lower (hsp A_ c_ e_) (below_size (by repeat (first | (with_reducible first | exact HB.out | apply below_alloc | apply pw_below_drewN | apply below_drew1) | exact HB.out)))); have n1_ := Aside0.mk (below_step (by repeat (first | (with_reducible first | exact HB.out | apply below_alloc | apply pw_below_drewN | apply below_drew1) | exact HB.out)) hb); clear HB; have HO223 := n0_; have HB := n1_; clear n0_ n1_; (try clear hb); (try clear hb2); (try clear hk); (try clear hi); (try clear ho0); obtain ⟨Ao9, co9, eo9⟩ := Kd.R_slice HO223.out; subst eo9; have HSP := Aside0.mk (nS_.out Ao9 co9 rfl); clear nS_ hsp) | ((with_reducible refine gate_callee (f := 24) rfl ?_); refine goesL_ (some 19) rfl rfl Tryd.func24 (by kernel_rfl) rfl #[.slice Ao9 t221.length co9] rfl (by (try simp only [List.map_toArray, List.map_cons, List.map_nil]); first | done | rfl | (simp only [List.length_drop, List.length_take]; rfl)) ?_; (with_reducible refine (code_Decode.calls _ _ t221 t224 t225 t228 t229 _ ?side1 ?side2 A4.out ?tab).mono ?_); (case tab => exact Tab.below HTab.out (by repeat (first | (with_reducible first | exact HB.out | apply below_alloc | apply pw_below_drewN | apply below_drew1) | exact HB.out))); (case side1 => repeat (first | exact (Kd.R_reads' HO223.out).2.2 | (with_reducible refine Kd.C_alloc ?_ _) | (with_reducible refine Kd.C_drewN ?_ _) | (with_reducible refine Kd.C_drew ?_))); (case side2 => exact (Kd.R_reads' HO223.out).2.1); rintro e w10 ⟨v226, rfl, ho0, hb⟩; refine ⟨_, rfl, ?_⟩; have n0_ := Aside0.mk (Kd.R_below (by (with_reducible repeat (first | apply Kd.R_alloc | apply Kd.R_drewN | apply Kd.R_drew)); exact HO223.out) hb); have nS_ := Aside0.mk (Kd.R_below (by (with_reducible repeat (first | apply Kd.R_alloc | apply Kd.R_drewN | apply Kd.R_drew)); exact HSP.out) hb); have n1_ := Aside0.mk (Kd.R_lower ho0 (below_size (by repeat (first | (with_reducible first | exact HB.out | apply below_alloc | apply pw_below_drewN | apply below_drew1) | exact HB.out)))); have n2_ := Aside0.mk (below_step (by repeat (first | (with_reducible first | exact HB.out | apply below_alloc | apply pw_below_drewN | apply below_drew1) | exact HB.out)) hb); clear HO223; clear HB; have HO223 := n0_; clear HSP; have HSP := nS_; clear nS_; have HO227 := n1_; have HB := n2_; clear n0_ n1_ n2_; (try clear hb); (try clear hb2); (try clear hk); (try clear hi); (try clear ho0)) | ((with_reducible refine gate_dst (N := 5) rfl ?_); refine box_event ?hg (N := 5) ?hd (cs := #[.int .i64 0, .slice none 0 0]) (t := 24) ?hr ?_; (case hd => rfl); (case hg => rfl); (case hr => first | (go_simp; done) | (go_simp; rfl)); intro gb230 hg w11 hbox hb; have n0_ := Aside0.mk (Kd.R_below (by (with_reducible repeat (first | apply Kd.R_alloc | apply Kd.R_drewN | apply Kd.R_drew)); exact HO223.out) hb); have nS_ := Aside0.mk (Kd.R_below (by (with_reducible repeat (first | apply Kd.R_alloc | apply Kd.R_drewN | apply Kd.R_drew)); exact HSP.out) hb); have n1_ := Aside0.mk (Kd.R_below (by (with_reducible repeat (first | apply Kd.R_alloc | apply Kd.R_drewN | apply Kd.R_drew)); exact HO227.out) hb); have n2_ := Aside0.mk (below_step (by repeat (first | (with_reducible first | exact HB.out | apply below_alloc | apply pw_below_drewN | apply below_drew1) | exact HB.out)) hb); have n3_ := Aside0.mk (hbox); have n4_ := Aside0.mk ((by rw [hg]; exact (below_size (by repeat (first | (with_reducible first | exact HB.out | apply below_alloc | apply pw_below_drewN | apply below_drew1) | exact HB.out))) : w.heap.size ≤ gb230)); have n5_ := Aside0.mk ((by rw [hg]; exact (below_size (by repeat (first | (with_reducible first | exact HB.out | apply below_alloc | apply pw_below_drewN | apply below_drew1) | exact HB.out))) : w.heap.size ≤ gb230)); clear HO223; clear HO227; clear HB; have HO223 := n0_; clear HSP; have HSP := nS_; clear nS_; have HO227 := n1_; have HB := n2_; have BK230 := n3_; have GW230 := n4_; have GE230 := n5_; clear n0_ n1_ n2_ n3_ n4_ n5_; clear hb hbox hg; have hcz12_0 : w11.cell? ⟨gb230, 0, none⟩ = some (.int .i64 0) := (blk_cell BK230.out 0).trans rfl; have hcz12_1 : w11.cell? ⟨gb230, 1, none⟩ = some (.slice none 0 0) := (blk_cell BK230.out 1).trans rfl; have hfz12_0 := blk_frozen BK230.out 0; have hfz12_1 := blk_frozen BK230.out 1; obtain ⟨Ao13, co13, eo13⟩ := Kd.R_slice HO227.out; subst eo13) | ((with_reducible refine gate_callee (f := 25) rfl ?_); refine goesL_ (some 25) rfl rfl Tryd.func25 (by kernel_rfl) rfl #[.slice A0 l0.length c0] rfl (by (try simp only [List.map_toArray, List.map_cons, List.map_nil]); first | done | rfl | (simp only [List.length_drop, List.length_take]; rfl)) ?_; (with_reducible refine (fugueref01_Decode.calls _ _ l0 t231 t232 t235 t236 _ ?side1 ?side2 A5.out).mono ?_); (case side1 => exact Kd.C_below HR0.out (by repeat (first | (with_reducible first | exact HB.out | apply below_alloc | apply pw_below_drewN | apply below_drew1 | refine below_set ?_ GE230.out) | exact HB.out))); (case side2 => exact HC0.out); rintro e w14 ⟨v233, rfl, ho0, hb⟩; refine ⟨_, rfl, ?_⟩; have n0_ := Aside0.mk (Kd.R_below (by (with_reducible repeat (first | apply Kd.R_alloc | apply Kd.R_drewN | apply Kd.R_drew)); exact (Kd.R_mono (Kd.R_far (p := ⟨gb230, 1, none⟩) (Kd.R_far (p := ⟨gb230, 0, none⟩) (Kd.R_types HO223.out BK230.out (by decide)) (fun _ hk => hk.2) (.int .i64 t224)) (fun _ hk => hk.2) (.slice Ao13 t225.length co13)) (fun _ h_ => h_.1))) hb); have nS_ := Aside0.mk (Kd.R_below (by (with_reducible repeat (first | apply Kd.R_alloc | apply Kd.R_drewN | apply Kd.R_drew)); exact (Kd.R_mono (Kd.R_far (p := ⟨gb230, 1, none⟩) (Kd.R_far (p := ⟨gb230, 0, none⟩) (Kd.R_types HSP.out BK230.out (by decide)) (fun _ hk => hk.2) (.int .i64 t224)) (fun _ hk => hk.2) (.slice Ao13 t225.length co13)) (fun _ h_ => h_.1))) hb); have n1_ := Aside0.mk (Kd.R_elder' (by (with_reducible repeat (first | apply Kd.R_alloc | apply Kd.R_drewN | apply Kd.R_drew)); exact (Kd.R_mono (Kd.R_far (p := ⟨gb230, 1, none⟩) (Kd.R_far (p := ⟨gb230, 0, none⟩) (Kd.R_types HO227.out BK230.out (by decide)) (fun _ hk => hk.2) (.int .i64 t224)) (fun _ hk => hk.2) (.slice Ao13 t225.length co13)) (fun _ h_ => h_.1))) (Kd.R_base ho0) hb); have n2_ := Aside0.mk (Kd.R_lower (Kd.R_new' ho0 (Kd.R_lt (by (with_reducible repeat (first | apply Kd.R_alloc | apply Kd.R_drewN | apply Kd.R_drew)); exact (Kd.R_mono (Kd.R_far (p := ⟨gb230, 1, none⟩) (Kd.R_far (p := ⟨gb230, 0, none⟩) (Kd.R_types HO227.out BK230.out (by decide)) (fun _ hk => hk.2) (.int .i64 t224)) (fun _ hk => hk.2) (.slice Ao13 t225.length co13)) (fun _ h_ => h_.1))))) (below_size (by repeat (first | (with_reducible first | exact HB.out | apply below_alloc | apply pw_below_drewN | apply below_drew1 | refine below_set ?_ GE230.out) | exact HB.out)))); have n3_ := Aside0.mk (blk_below (g := gb230) (o := .cells #[.int .i64 t224, .slice Ao13 t225.length co13] 24 (0, 0)) (by (with_reducible repeat (first | refine blk_drewN ?_ _ | refine blk_drew ?_ | refine blk_alloc ?_ _)); refine blk_put (cs := #[.int .i64 t224, .slice none 0 0]) ?_ 1 _ rfl; (with_reducible repeat (first | refine blk_drewN ?_ _ | refine blk_drew ?_ | refine blk_alloc ?_ _)); refine blk_put (cs := #[.int .i64 0, .slice none 0 0]) ?_ 0 _ rfl; (with_reducible repeat (first | refine blk_drewN ?_ _ | refine blk_drew ?_ | refine blk_alloc ?_ _)); exact BK230.out) hb); have n4_ := Aside0.mk (below_step (by repeat (first | (with_reducible first | exact HB.out | apply below_alloc | apply pw_below_drewN | apply below_drew1 | refine below_set ?_ GE230.out) | exact HB.out)) hb); clear HO223; clear HO227; clear BK230; clear HB; have HO223 := n0_; clear HSP; have HSP := nS_; clear nS_; have HO227 := n1_; have HO234 := n2_; have BK230 := n3_; have HB := n4_; clear n0_ n1_ n2_ n3_ n4_; (try clear hb); (try clear hb2); (try clear hk); (try clear hi); (try clear ho0)) | ((with_reducible refine gate_dst (N := 8) rfl ?_); refine box_event ?hg (N := 8) ?hd (cs := #[.int .i64 0, .slice none 0 0]) (t := 24) ?hr ?_; (case hd => rfl); (case hg => rfl); (case hr => first | (go_simp; done) | (go_simp; rfl)); intro gb237 hg w15 hbox hb; have n0_ := Aside0.mk (Kd.R_below (by (with_reducible repeat (first | apply Kd.R_alloc | apply Kd.R_drewN | apply Kd.R_drew)); exact HO223.out) hb); have nS_ := Aside0.mk (Kd.R_below (by (with_reducible repeat (first | apply Kd.R_alloc | apply Kd.R_drewN | apply Kd.R_drew)); exact HSP.out) hb); have n1_ := Aside0.mk (Kd.R_below (by (with_reducible repeat (first | apply Kd.R_alloc | apply Kd.R_drewN | apply Kd.R_drew)); exact HO227.out) hb); have n2_ := Aside0.mk (Kd.R_below (by (with_reducible repeat (first | apply Kd.R_alloc | apply Kd.R_drewN | apply Kd.R_drew)); exact HO234.out) hb); have n3_ := Aside0.mk (blk_below (g := gb230) (o := .cells #[.int .i64 t224, .slice Ao13 t225.length co13] 24 (0, 0)) (by (with_reducible repeat (first | refine blk_drewN ?_ _ | refine blk_drew ?_ | refine blk_alloc ?_ _)); exact BK230.out) hb); have n4_ := Aside0.mk (below_step (by repeat (first | (with_reducible first | exact HB.out | apply below_alloc | apply pw_below_drewN | apply below_drew1 | refine below_set ?_ GE230.out) | exact HB.out)) hb); have n5_ := Aside0.mk (hbox); have n6_ := Aside0.mk ((by rw [hg]; exact (below_size (by repeat (first | (with_reducible first | exact HB.out | apply below_alloc | apply pw_below_drewN | apply below_drew1 | refine below_set ?_ GE230.out) | exact HB.out))) : w.heap.size ≤ gb237)); have n7_ := Aside0.mk ((by rw [hg]; exact (below_size (by repeat (first | (with_reducible first | exact HB.out | apply below_alloc | apply pw_below_drewN | apply below_drew1 | refine below_set ?_ GE230.out) | exact HB.out))) : w.heap.size ≤ gb237)); have n8_ := Aside0.mk ((by rw [hg]; exact Nat.ne_of_lt (blk_lt (g := gb230) (o := .cells #[.int .i64 t224, .slice Ao13 t225.length co13] 24 (0, 0)) (by (with_reducible repeat (first | refine blk_drewN ?_ _ | refine blk_drew ?_ | refine blk_alloc ?_ _)); exact BK230.out)) : gb230 ≠ gb237)); have n9_ := Aside0.mk ((by rw [hg]; exact Nat.ne_of_gt (blk_lt (g := gb230) (o := .cells #[.int .i64 t224, .slice Ao13 t225.length co13] 24 (0, 0)) (by (with_reducible repeat (first | refine blk_drewN ?_ _ | refine blk_drew ?_ | refine blk_alloc ?_ _)); exact BK230.out)) : gb237 ≠ gb230)); clear HO223; clear HO227; clear HO234; clear BK230; clear HB; have HO223 := n0_; clear HSP; have HSP := nS_; clear nS_; have HO227 := n1_; have HO234 := n2_; have BK230 := n3_; have HB := n4_; have BK237 := n5_; have GW237 := n6_; have GE237 := n7_; have NB230_237 := n8_; have NB237_230 := n9_; clear n0_ n1_ n2_ n3_ n4_ n5_ n6_ n7_ n8_ n9_; clear hb hbox hg; have hnb16 := NB237_230.out; have hnc16 := NB230_237.out; have hcz17_0 : w15.cell? ⟨gb237, 0, none⟩ = some (.int .i64 0) := (blk_cell BK237.out 0).trans rfl; have hcz17_1 : w15.cell? ⟨gb237, 1, none⟩ = some (.slice none 0 0) := (blk_cell BK237.out 1).trans rfl; have hfz17_0 := blk_frozen BK237.out 0; have hfz17_1 := blk_frozen BK237.out 1; obtain ⟨Ao18, co18, eo18⟩ := Kd.R_slice HO234.out; subst eo18))
 (try simp only [Act.put, pn])
 go_cut [11] (fun v11 wc => ∃ (kq : Nat) (x11_5 : Bool), v11 = .bool x11_5 ∧ Aside0 (fuguelaw01_CodeDecodes.j0 kq t220 t221 t228 t229 t235 t236 x11_5 = some r) ∧ Aside0 (kq ≤ k) ∧ Aside0 (Kd.R (Kd.int .u8) 5 wc w.heap.size (fun _ => True) (.slice Ao9 t221.length co9) t221) ∧ Aside0 (Kd.R k46 46 wc w.heap.size (fun k_ => some k_ ≠ ((.slice Ao18 t232.length co18) : Value).ownBlock) (.slice Ao13 t225.length co13) t225) ∧ Aside0 (Kd.R k46 46 wc w.heap.size (fun k_ => some k_ ≠ ((.slice Ao13 t225.length co13) : Value).ownBlock) (.slice Ao18 t232.length co18) t232) ∧ Aside0 (wc.heap[gb230]? = some (.cells #[.int .i64 t224, (.slice Ao13 t225.length co13)] 24 (0, 0))) ∧ Aside0 (wc.heap[gb237]? = some (.cells #[.int .i64 t231, (.slice Ao18 t232.length co18)] 24 (0, 0))) ∧ Aside0 (Below w.heap.size w wc))
 case first =>
  have H := HC6.out
  clear HC6
  replace H := Option.bind_eq_some_iff.mp H
  obtain ⟨t238, A190, H⟩ := H
  replace H : (if t238 = true then ((fugueref00_EqBytes.f k t221 l0).bind fun t239 => (if t239 = true then ((fugueref00_SpareBytes.f t221).bind fun t240 => (fuguelaw01_CodeDecodes.j0 k t220 t221 t228 t229 t235 t236 t240)) else (fuguelaw01_CodeDecodes.j0 k t220 t221 t228 t229 t235 t236 false))) else (fuguelaw01_CodeDecodes.j0 k t220 t221 t228 t229 t235 t236 false)) = some r := H
  have A19 := Aside0.mk A190
  clear A190
  by_cases c20 : t238 = true
  ·subst c20
   have H1 : ((fugueref00_EqBytes.f k t221 l0).bind fun t239 => (if t239 = true then ((fugueref00_SpareBytes.f t221).bind fun t240 => (fuguelaw01_CodeDecodes.j0 k t220 t221 t228 t229 t235 t236 t240)) else (fuguelaw01_CodeDecodes.j0 k t220 t221 t228 t229 t235 t236 false))) = some r := by rw [if_pos rfl] at H; exact H
   clear H
   have H := H1
   clear H1
   replace H := Option.bind_eq_some_iff.mp H
   obtain ⟨t239, A210, H⟩ := H
   replace H : (if t239 = true then ((fugueref00_SpareBytes.f t221).bind fun t240 => (fuguelaw01_CodeDecodes.j0 k t220 t221 t228 t229 t235 t236 t240)) else (fuguelaw01_CodeDecodes.j0 k t220 t221 t228 t229 t235 t236 false)) = some r := H
   have A21 := Aside0.mk A210
   clear A210
   by_cases c22 : t239 = true
   ·subst c22
    have H1 : ((fugueref00_SpareBytes.f t221).bind fun t240 => (fuguelaw01_CodeDecodes.j0 k t220 t221 t228 t229 t235 t236 t240)) = some r := by rw [if_pos rfl] at H; exact H
    clear H
    have H := H1
    clear H1
    replace H := Option.bind_eq_some_iff.mp H
    obtain ⟨t240, A230, H⟩ := H
    replace H : (fuguelaw01_CodeDecodes.j0 k t220 t221 t228 t229 t235 t236 t240) = some r := H
    have A23 := Aside0.mk A230
    clear A230
    have H' := Aside0.mk H
    clear H
    have hnb24 := NB230_237.out
    have hnc24 := NB237_230.out
    have hcz25_0 : w15.cell? ⟨gb230, 0, none⟩ = some (.int .i64 t224) := (blk_cell BK230.out 0).trans rfl
    have hcz25_1 : w15.cell? ⟨gb230, 1, none⟩ = some (.slice Ao13 t225.length co13) := (blk_cell BK230.out 1).trans rfl
    have hfz25_0 := blk_frozen BK230.out 0
    have hfz25_1 := blk_frozen BK230.out 1
    have hcz26_0 : w15.cell? ⟨gb237, 0, none⟩ = some (.int .i64 0) := (blk_cell BK237.out 0).trans rfl
    have hcz26_1 : w15.cell? ⟨gb237, 1, none⟩ = some (.slice none 0 0) := (blk_cell BK237.out 1).trans rfl
    have hfz26_0 := blk_frozen BK237.out 0
    have hfz26_1 := blk_frozen BK237.out 1
    go_wp2_with (first | ((with_reducible refine gate_callee (f := 14) rfl ?_); refine goesL_ (some 31) rfl rfl Tryd.func14 (by kernel_rfl) rfl #[.agg #[.int .i64 t224, .slice Ao13 t225.length co13], .agg #[.int .i64 t231, .slice Ao18 t232.length co18]] rfl (by (try simp only [List.map_toArray, List.map_cons, List.map_nil]); first | done | rfl | (simp only [List.length_drop, List.length_take]; rfl)) ?_; (with_reducible refine (fugueref00_EqProgram.calls k t224 _ _ t225 t231 _ _ t232 true rfl _ ?side1 ?side2 ?side3 ?side4 A19.out).mono ?_); (case side1 => refine (Kd.R_reads' (e := 46) (base := w.heap.size) (ok := fun k_ => (True ∧ some k_ ≠ (.slice Ao18 t232.length co18 : Value).ownBlock)) (n := t225.length) (c := co13) ?_).2.2; exact (by (with_reducible repeat (first | apply Kd.R_alloc | apply Kd.R_drewN | apply Kd.R_drew)); exact (Kd.R_mono (Kd.R_far (p := ⟨gb237, 1, none⟩) (Kd.R_far (p := ⟨gb237, 0, none⟩) (Kd.R_types HO227.out BK237.out (by decide)) (fun _ hk => hk.2) (.int .i64 t231)) (fun _ hk => hk.2) (.slice Ao18 t232.length co18)) (fun _ h_ => h_.1)))); (case side2 => exact (Kd.R_reads' HO227.out).2.1); (case side3 => refine (Kd.R_reads' (e := 46) (base := w.heap.size) (ok := fun k_ => (True ∧ some k_ ≠ (.slice Ao13 t225.length co13 : Value).ownBlock)) (n := t232.length) (c := co18) ?_).2.2; exact (by (with_reducible repeat (first | apply Kd.R_alloc | apply Kd.R_drewN | apply Kd.R_drew)); exact (Kd.R_mono (Kd.R_far (p := ⟨gb237, 1, none⟩) (Kd.R_far (p := ⟨gb237, 0, none⟩) (Kd.R_types HO234.out BK237.out (by decide)) (fun _ hk => hk.2) (.int .i64 t231)) (fun _ hk => hk.2) (.slice Ao18 t232.length co18)) (fun _ h_ => h_.1)))); (case side4 => exact (Kd.R_reads' HO234.out).2.1); rintro e w27 ⟨rfl, hb⟩; refine ⟨_, rfl, ?_⟩; have n0_ := Aside0.mk (Kd.R_below (by (with_reducible repeat (first | apply Kd.R_alloc | apply Kd.R_drewN | apply Kd.R_drew)); exact (Kd.R_mono (Kd.R_far (p := ⟨gb237, 1, none⟩) (Kd.R_far (p := ⟨gb237, 0, none⟩) (Kd.R_types HO223.out BK237.out (by decide)) (fun _ hk => hk.2) (.int .i64 t231)) (fun _ hk => hk.2) (.slice Ao18 t232.length co18)) (fun _ h_ => h_.1))) hb); have nS_ := Aside0.mk (Kd.R_below (by (with_reducible repeat (first | apply Kd.R_alloc | apply Kd.R_drewN | apply Kd.R_drew)); exact (Kd.R_mono (Kd.R_far (p := ⟨gb237, 1, none⟩) (Kd.R_far (p := ⟨gb237, 0, none⟩) (Kd.R_types HSP.out BK237.out (by decide)) (fun _ hk => hk.2) (.int .i64 t231)) (fun _ hk => hk.2) (.slice Ao18 t232.length co18)) (fun _ h_ => h_.1))) hb); have n1_ := Aside0.mk (Kd.R_below (by (with_reducible repeat (first | apply Kd.R_alloc | apply Kd.R_drewN | apply Kd.R_drew)); exact (Kd.R_mono (Kd.R_far (p := ⟨gb237, 1, none⟩) (Kd.R_far (p := ⟨gb237, 0, none⟩) (Kd.R_types HO227.out BK237.out (by decide)) (fun _ hk => hk.2) (.int .i64 t231)) (fun _ hk => hk.2) (.slice Ao18 t232.length co18)) (fun _ h_ => h_.1))) hb); have n2_ := Aside0.mk (Kd.R_below (by (with_reducible repeat (first | apply Kd.R_alloc | apply Kd.R_drewN | apply Kd.R_drew)); exact (Kd.R_mono (Kd.R_far (p := ⟨gb237, 1, none⟩) (Kd.R_far (p := ⟨gb237, 0, none⟩) (Kd.R_types HO234.out BK237.out (by decide)) (fun _ hk => hk.2) (.int .i64 t231)) (fun _ hk => hk.2) (.slice Ao18 t232.length co18)) (fun _ h_ => h_.1))) hb); have n3_ := Aside0.mk (blk_below (g := gb230) (o := .cells #[.int .i64 t224, .slice Ao13 t225.length co13] 24 (0, 0)) (by (with_reducible repeat (first | refine blk_drewN ?_ _ | refine blk_drew ?_ | refine blk_alloc ?_ _)); refine blk_far ?_ NB230_237.out _; (with_reducible repeat (first | refine blk_drewN ?_ _ | refine blk_drew ?_ | refine blk_alloc ?_ _)); refine blk_far ?_ NB230_237.out _; (with_reducible repeat (first | refine blk_drewN ?_ _ | refine blk_drew ?_ | refine blk_alloc ?_ _)); exact BK230.out) hb); have n4_ := Aside0.mk (blk_below (g := gb237) (o := .cells #[.int .i64 t231, .slice Ao18 t232.length co18] 24 (0, 0)) (by (with_reducible repeat (first | refine blk_drewN ?_ _ | refine blk_drew ?_ | refine blk_alloc ?_ _)); refine blk_put (cs := #[.int .i64 t231, .slice none 0 0]) ?_ 1 _ rfl; (with_reducible repeat (first | refine blk_drewN ?_ _ | refine blk_drew ?_ | refine blk_alloc ?_ _)); refine blk_put (cs := #[.int .i64 0, .slice none 0 0]) ?_ 0 _ rfl; (with_reducible repeat (first | refine blk_drewN ?_ _ | refine blk_drew ?_ | refine blk_alloc ?_ _)); exact BK237.out) hb); have n5_ := Aside0.mk (below_step (by repeat (first | (with_reducible first | exact HB.out | apply below_alloc | apply pw_below_drewN | apply below_drew1 | refine below_set ?_ GE230.out | refine below_set ?_ GE237.out) | exact HB.out)) hb); clear HO223; clear HO227; clear HO234; clear BK230; clear BK237; clear HB; have HO223 := n0_; clear HSP; have HSP := nS_; clear nS_; have HO227 := n1_; have HO234 := n2_; have BK230 := n3_; have BK237 := n4_; have HB := n5_; clear n0_ n1_ n2_ n3_ n4_ n5_; (try clear hb); (try clear hb2); (try clear hk); (try clear hi)) | (go_at_call 22; (with_reducible refine (fugueref00_EqBytes.calls k _ _ t221 _ _ l0 true rfl _ ?side1 ?side2 ?side3 ?side4 A21.out).mono ?_); (case side1 => repeat (first | exact (Kd.R_reads' HO223.out).2.2 | (with_reducible refine Kd.C_alloc ?_ _) | (with_reducible refine Kd.C_drewN ?_ _) | (with_reducible refine Kd.C_drew ?_))); (case side2 => exact (Kd.R_reads' HO223.out).2.1); (case side3 => repeat (first | exact (Kd.C_below HR0.out HB.out) | (with_reducible refine Kd.C_alloc ?_ _) | (with_reducible refine Kd.C_drewN ?_ _) | (with_reducible refine Kd.C_drew ?_))); (case side4 => exact HC0.out); rintro e w' ⟨rfl, ⟨nd, rfl⟩⟩) | (go_at_call 26; (with_reducible refine (fugueref00_SpareBytes.calls _ _ t221 t240 _ ?side1 ?side2 A23.out ?spa ?spb).mono ?_); (case spa => repeat (first | exact (Kd.R_reads' HSP.out).2.2 | (with_reducible refine Kd.C_alloc ?_ _) | (with_reducible refine Kd.C_drewN ?_ _) | (with_reducible refine Kd.C_drew ?_))); (case spb => exact (Kd.R_reads' HSP.out).2.1); (case side1 => repeat (first | exact (Kd.R_reads' HO223.out).2.2 | (with_reducible refine Kd.C_alloc ?_ _) | (with_reducible refine Kd.C_drewN ?_ _) | (with_reducible refine Kd.C_drew ?_))); (case side2 => exact (Kd.R_reads' HO223.out).2.1); rintro e w' ⟨rfl, ⟨nd, rfl⟩⟩))
    go_meet
    case rel => exact ⟨_, (t240), (by first | rfl | (simp; done) | (simp [*]; done)), H', ⟨by first | omega | exact Nat.le_refl _⟩, ⟨by (with_reducible repeat (first | apply Kd.R_alloc | apply Kd.R_drewN | apply Kd.R_drew)); exact HO223.out⟩, ⟨by (with_reducible repeat (first | apply Kd.R_alloc | apply Kd.R_drewN | apply Kd.R_drew)); exact Kd.R_mono HO227.out (fun _ hk => hk.2)⟩, ⟨by (with_reducible repeat (first | apply Kd.R_alloc | apply Kd.R_drewN | apply Kd.R_drew)); exact Kd.R_mono HO234.out (fun _ hk => hk.2)⟩, ⟨by (with_reducible repeat (first | refine blk_drewN ?_ _ | refine blk_drew ?_ | refine blk_alloc ?_ _)); exact BK230.out⟩, ⟨by (with_reducible repeat (first | refine blk_drewN ?_ _ | refine blk_drew ?_ | refine blk_alloc ?_ _)); exact BK237.out⟩, ⟨by repeat (first | (with_reducible first | exact HB.out | apply below_alloc | apply pw_below_drewN | apply below_drew1 | refine below_set ?_ GE230.out | refine below_set ?_ GE237.out) | exact HB.out)⟩⟩
   ·replace c22 := Bool.eq_false_iff.mpr c22
    subst c22
    have H1 : (fuguelaw01_CodeDecodes.j0 k t220 t221 t228 t229 t235 t236 false) = some r := by rw [if_neg (show ¬ (false = true) by decide)] at H; exact H
    exact (fuguelaw01_CodeDecodes.j0_no H1 hr_).elim
  ·replace c20 := Bool.eq_false_iff.mpr c20
   subst c20
   have H1 : (fuguelaw01_CodeDecodes.j0 k t220 t221 t228 t229 t235 t236 false) = some r := by rw [if_neg (show ¬ (false = true) by decide)] at H; exact H
   exact (fuguelaw01_CodeDecodes.j0_no H1 hr_).elim
 case rest =>
  clear HC6
  try clear c1
  try clear c2
  try clear p2
  try clear c3
  try clear c5
  try clear c10
  try clear c14
  try clear c16
  try clear c20
  try clear c22
  try clear c23
  try clear c24
  try clear c25
  try clear c28
  try clear c32
  try clear hcz12_0
  try clear hcz12_1
  try clear hcz17_0
  try clear hcz17_1
  try clear hcz25_0
  try clear hcz25_1
  try clear hcz26_0
  try clear hcz26_1
  try clear hcz29_0
  try clear hcz29_1
  try clear hcz30_0
  try clear hcz30_1
  try clear hcz33_0
  try clear hcz33_1
  try clear hcz34_0
  try clear hcz34_1
  try clear hfz12_0
  try clear hfz12_1
  try clear hfz17_0
  try clear hfz17_1
  try clear hfz25_0
  try clear hfz25_1
  try clear hfz26_0
  try clear hfz26_1
  try clear hfz29_0
  try clear hfz29_1
  try clear hfz30_0
  try clear hfz30_1
  try clear hfz33_0
  try clear hfz33_1
  try clear hfz34_0
  try clear hfz34_1
  obtain ⟨kq, x11_5, rfl, HA, HJ5, HO_4, HO_231001, HO_238001, BK230, BK237, HB⟩ := hcut
  cases kq with
  | zero => exact absurd HA.out (by simp [fuguelaw01_CodeDecodes.j0])
  | succ kj5 =>
   have H := HA.out
   clear HA
   simp only [fuguelaw01_CodeDecodes.j0] at H
   have HC36 := Aside0.mk H
   clear H
   go_upto_region 6 with (fail)
   go_cut [52] (fun v52 wc => ∃ (kq : Nat) (x52_35 : Bool), v52 = .bool x52_35 ∧ Aside0 (fuguelaw01_CodeDecodes.j1 kq t220 t221 x52_35 = some r) ∧ Aside0 (kq ≤ kj5) ∧ Aside0 (Kd.R (Kd.int .u8) 5 wc w.heap.size (fun _ => True) (.slice Ao9 t221.length co9) t221) ∧ Aside0 (Kd.R k46 46 wc w.heap.size (fun k_ => some k_ ≠ ((.slice Ao18 t232.length co18) : Value).ownBlock) (.slice Ao13 t225.length co13) t225) ∧ Aside0 (Kd.R k46 46 wc w.heap.size (fun k_ => some k_ ≠ ((.slice Ao13 t225.length co13) : Value).ownBlock) (.slice Ao18 t232.length co18) t232) ∧ Aside0 (wc.heap[gb230]? = some (.cells #[.int .i64 t224, (.slice Ao13 t225.length co13)] 24 (0, 0))) ∧ Aside0 (wc.heap[gb237]? = some (.cells #[.int .i64 t231, (.slice Ao18 t232.length co18)] 24 (0, 0))) ∧ Aside0 (Below w.heap.size w wc))
   case first =>
    have H := HC36.out
    clear HC36
    by_cases c37 : x11_5 = true
    ·subst c37
     have H1 : (if t228 = t235 then (fuguelaw01_CodeDecodes.j1 kj5 t220 t221 (t229 != t236)) else (fuguelaw01_CodeDecodes.j1 kj5 t220 t221 true)) = some r := by rw [if_pos rfl] at H; exact H
     clear H
     have H := H1
     clear H1
     by_cases c38 : t228 = t235
     ·rw [if_pos c38] at H
      have c38b0 : (t228 == t235) = true := beq_iff_eq.mpr c38
      have c38b1 : (t228 != t235) = false := bne_eq_false_iff_eq.mpr c38
      clear c38
      (first | rw [c38b0] | (simp only [i64_w, i32_w]; rw [c38b0]) | skip)
      have H' := Aside0.mk H
      clear H
      go_wp2
      go_meet
      case rel => exact ⟨_, ((t229 != t236)), (by first | rfl | (simp; done) | (simp [*]; done)), H', ⟨by have := HJ5.out; first | omega | exact Nat.le_refl _⟩, ⟨by (with_reducible repeat (first | apply Kd.R_alloc | apply Kd.R_drewN | apply Kd.R_drew)); exact HO_4.out⟩, ⟨by (with_reducible repeat (first | apply Kd.R_alloc | apply Kd.R_drewN | apply Kd.R_drew)); exact HO_231001.out⟩, ⟨by (with_reducible repeat (first | apply Kd.R_alloc | apply Kd.R_drewN | apply Kd.R_drew)); exact HO_238001.out⟩, ⟨by (with_reducible repeat (first | refine blk_drewN ?_ _ | refine blk_drew ?_ | refine blk_alloc ?_ _)); exact BK230.out⟩, ⟨by (with_reducible repeat (first | refine blk_drewN ?_ _ | refine blk_drew ?_ | refine blk_alloc ?_ _)); exact BK237.out⟩, ⟨by repeat (first | (with_reducible first | exact HB.out | apply below_alloc | apply pw_below_drewN | apply below_drew1 | refine below_set ?_ GE230.out | refine below_set ?_ GE237.out) | exact HB.out)⟩⟩
     ·rw [if_neg c38] at H
      exact (fuguelaw01_CodeDecodes.j1_no H hr_).elim
    ·replace c37 := Bool.eq_false_iff.mpr c37
     subst c37
     have H1 : (fuguelaw01_CodeDecodes.j1 kj5 t220 t221 true) = some r := by rw [if_neg (show ¬ (false = true) by decide)] at H; exact H
     exact (fuguelaw01_CodeDecodes.j1_no H1 hr_).elim
   case rest =>
    clear HC36
    try clear c1
    try clear c2
    try clear p2
    try clear c3
    try clear c5
    try clear c10
    try clear c14
    try clear c16
    try clear c20
    try clear c22
    try clear c23
    try clear c24
    try clear c25
    try clear c28
    try clear c32
    try clear c37
    try clear c38
    try clear c38b0
    try clear c38b1
    try clear hcz12_0
    try clear hcz12_1
    try clear hcz17_0
    try clear hcz17_1
    try clear hcz25_0
    try clear hcz25_1
    try clear hcz26_0
    try clear hcz26_1
    try clear hcz29_0
    try clear hcz29_1
    try clear hcz30_0
    try clear hcz30_1
    try clear hcz33_0
    try clear hcz33_1
    try clear hcz34_0
    try clear hcz34_1
    try clear hfz12_0
    try clear hfz12_1
    try clear hfz17_0
    try clear hfz17_1
    try clear hfz25_0
    try clear hfz25_1
    try clear hfz26_0
    try clear hfz26_1
    try clear hfz29_0
    try clear hfz29_1
    try clear hfz30_0
    try clear hfz30_1
    try clear hfz33_0
    try clear hfz33_1
    try clear hfz34_0
    try clear hfz34_1
    try clear p2
    obtain ⟨kq, x52_35, rfl, HA, HJ35, HO_4, HO_231001, HO_238001, BK230, BK237, HB⟩ := hcut
    cases kq with
    | zero => exact absurd HA.out (by simp [fuguelaw01_CodeDecodes.j1])
    | succ kj35 =>
     have H := HA.out
     clear HA
     simp only [fuguelaw01_CodeDecodes.j1] at H
     by_cases c39 : x52_35 = true
     ·subst c39
      have H1 : (some false) = some r := by rw [if_pos rfl] at H; exact H
      clear H
      have H := H1
      clear H1
      obtain rfl := Option.some.inj H
      go_wp2
      go_ret
      exact ⟨by first | rfl | (simp [errW_none, errW_some] <;> rfl) | (simp [*, errW_none, errW_some] <;> rfl), by repeat (first | (with_reducible first | exact HB.out | apply below_alloc | apply pw_below_drewN | apply below_drew1 | refine below_set ?_ GE230.out | refine below_set ?_ GE237.out) | exact HB.out)⟩
     ·replace c39 := Bool.eq_false_iff.mpr c39
      subst c39
      have H1 : (fuguelaw01_CodeDecodes.l0 kj35 t220 t221 9) = some r := by rw [if_neg (show ¬ (false = true) by decide)] at H; exact H
      clear H
      have H := H1
      clear H1
      have H' := Aside0.mk H
      clear H
      go_wp2
      go_loopg [12] kj35 (fun kq v12 w' => ∃ (x4_3 : List Int) (x12_3 : Int), v12 = .int .i64 x12_3 ∧ Aside0 (fuguelaw01_CodeDecodes.l0 kq t220 x4_3 x12_3 = some r) ∧ Aside0 (kq ≤ kj35) ∧ Aside0 (Kd.R (Kd.int .u8) 5 w' w.heap.size (fun _ => True) (.slice Ao9 t221.length co9) x4_3) ∧ Aside0 (Kd.R k46 46 w' w.heap.size (fun k_ => some k_ ≠ ((.slice Ao18 t232.length co18) : Value).ownBlock) (.slice Ao13 t225.length co13) t225) ∧ Aside0 (Kd.R k46 46 w' w.heap.size (fun k_ => some k_ ≠ ((.slice Ao13 t225.length co13) : Value).ownBlock) (.slice Ao18 t232.length co18) t232) ∧ Aside0 (w'.heap[gb230]? = some (.cells #[.int .i64 t224, (.slice Ao13 t225.length co13)] 24 (0, 0))) ∧ Aside0 (w'.heap[gb237]? = some (.cells #[.int .i64 t231, (.slice Ao18 t232.length co18)] 24 (0, 0))) ∧ Aside0 (Below w.heap.size w w'))
      case atStart => exact ⟨(t221), (9), (by first | rfl | (simp; done) | (simp [*]; done)), H', ⟨Nat.le_refl _⟩, ⟨by (with_reducible repeat (first | apply Kd.R_alloc | apply Kd.R_drewN | apply Kd.R_drew)); exact HO_4.out⟩, ⟨by (with_reducible repeat (first | apply Kd.R_alloc | apply Kd.R_drewN | apply Kd.R_drew)); exact HO_231001.out⟩, ⟨by (with_reducible repeat (first | apply Kd.R_alloc | apply Kd.R_drewN | apply Kd.R_drew)); exact HO_238001.out⟩, ⟨by (with_reducible repeat (first | refine blk_drewN ?_ _ | refine blk_drew ?_ | refine blk_alloc ?_ _)); exact BK230.out⟩, ⟨by (with_reducible repeat (first | refine blk_drewN ?_ _ | refine blk_drew ?_ | refine blk_alloc ?_ _)); exact BK237.out⟩, ⟨by repeat (first | (with_reducible first | exact HB.out | apply below_alloc | apply pw_below_drewN | apply below_drew1 | refine below_set ?_ GE230.out | refine below_set ?_ GE237.out) | exact HB.out)⟩⟩
      case round =>
       clear H'
       try clear c1
       try clear c2
       try clear p2
       try clear c3
       try clear c5
       try clear c10
       try clear c14
       try clear c16
       try clear c20
       try clear c22
       try clear c23
       try clear c24
       try clear c25
       try clear c28
       try clear c32
       try clear c37
       try clear c38
       try clear c38b0
       try clear c38b1
       try clear c39
       try clear hcz12_0
       try clear hcz12_1
       try clear hcz17_0
       try clear hcz17_1
       try clear hcz25_0
       try clear hcz25_1
       try clear hcz26_0
       try clear hcz26_1
       try clear hcz29_0
       try clear hcz29_1
       try clear hcz30_0
       try clear hcz30_1
       try clear hcz33_0
       try clear hcz33_1
       try clear hcz34_0
       try clear hcz34_1
       try clear hfz12_0
       try clear hfz12_1
       try clear hfz17_0
       try clear hfz17_1
       try clear hfz25_0
       try clear hfz25_1
       try clear hfz26_0
       try clear hfz26_1
       try clear hfz29_0
       try clear hfz29_1
       try clear hfz30_0
       try clear hfz30_1
       try clear hfz33_0
       try clear hfz33_1
       try clear hfz34_0
       try clear hfz34_1
       try clear p2
       obtain ⟨x4_3, x12_3, rfl, HA, HK3, HO_4, HO_231001, HO_238001, BK230, BK237, HB⟩ := hrel
       have hl4_3 := (Kd.R_reads' HO_4.out).1
       rw [hl4_3] at HO_4
       (try simp only [hl4_3])
       (try simp only [hl4_3] at BK230)
       (try simp only [hl4_3] at BK237)
       (try simp only [hl4_3] at HO_231001)
       (try simp only [hl4_3] at HO_238001)
       cases gk with
       | zero => exact absurd HA.out (by simp [fuguelaw01_CodeDecodes.l0])
       | succ k3 =>
        have H := HA.out
        clear HA
        simp only [fuguelaw01_CodeDecodes.l0] at H
        by_cases c40 : x12_3 < (x4_3.length : Int)
        ·rw [if_pos c40] at H
         have c40b0 : decide (x12_3 < (x4_3.length : Int)) = true := decide_eq_true c40
         clear c40
         by_cases c41 : 0 ≤ x12_3
         ·rw [if_pos c41] at H
          have c41b0 : decide (0 ≤ x12_3) = true := decide_eq_true c41
          clear c41
          obtain ⟨y242, hy242⟩ : ∃ y_ : List Int, y_ = (x4_3.set (x12_3 : Int).toNat (Go.bits .xor .u8 (rd x4_3 x12_3) 1)) := ⟨_, rfl⟩
          replace H : (fuguelaw01_CodeDecodes.l0 k3 t220 y242 (wrap64 (x12_3 + 3))) = some r := by first | (rw [hy242]; with_reducible exact H) | (have H2_ := (Option.bind_some _ _).symm.trans H; rw [hy242]; with_reducible exact H2_) | (have H2_ := (Option.bind_some _ _).symm.trans H; with_reducible exact H2_) | with_reducible exact H | (rw [hy242]; exact H) | exact H
          have Ny242 := Aside0.mk hy242
          clear hy242
          have H' := Aside0.mk H
          clear H
          have p241 : 0 ≤ (x12_3 : Int) := of_decide_eq_true (by first | (with_reducible assumption) | assumption)
          have q241 : x12_3 < (x4_3.length : Int) := of_decide_eq_true (by first | (with_reducible assumption) | assumption)
          obtain ⟨ad241, e241, hx241_0⟩ := Kd.at_int (Kd.R_reads' HO_4.out).2.2 x12_3 p241 q241
          cases e241
          replace p241 := eq_true p241
          replace q241 := eq_true q241
          have p42 : 0 ≤ (x12_3 : Int) := of_decide_eq_true (by first | (with_reducible assumption) | assumption)
          have q42 : (x12_3 : Int) < ((x4_3.length : Int) : Int) := of_decide_eq_true (by first | (with_reducible assumption) | assumption)
          obtain ⟨go42, co42, eo42, gb42, gl42, cl42, HG42⟩ := Kd.R_form HO_4.out (by omega)
          (first | cases eo42 | (injection eo42 with ea_ en_ ec_; (first | subst ea_ | (injection ea_ with ea_; subst ea_)); subst ec_; clear en_))
          have GB42 := Aside0.mk gb42
          have GG42 := Aside0.mk HG42
          clear gb42 gl42 HG42
          (first | simp only [add_plain] at hx241_0 | skip)
          obtain ⟨hx42_0, hf42_0⟩ := Kd.R_celln 0 HO_4.out (x12_3 : Int) p42 q42
          replace p42 := eq_true p42
          replace q42 := eq_true q42
          have HP43 := Kd.R_putg HO_4.out (x12_3 : Int) (Go.bits .xor .u8 (rd x4_3 x12_3) 1)
          go_wp2_with (first | ((with_reducible refine gate_store (t := 5) (p := 66) rfl ?_); refine store_event (t := 5) (p := 66) (v := ?vo_w44) (w1 := (wr.setCell ⟨go42, (x12_3 : Int).toNat, none⟩ (.int .u8 (Go.bits .xor .u8 (rd x4_3 x12_3) 1)))) ?hg ?ho ?hn ?hr ?_; (case ho => rfl); (case hg => rfl); (case hn => rfl); (case hr => first | (go_simp; done) | (go_simp; rfl)); intro w44 hw; have hg : wr.grownBy w44 (some go42) := (by rw [hw]; exact HP43.2); have hp_ : Kd.R (Kd.int .u8) 5 w44 w.heap.size (fun _ => True) (.slice (some ⟨go42, 0, none⟩) x4_3.length co9) y242 := (by rw [hw, Ny242.out]; exact HP43.1); clear HP43; have n0_ := Aside0.mk (hp_); have n1_ := Aside0.mk (Kd.R_over' (v := (.slice (some ⟨go42, 0, none⟩) x4_3.length co9)) (by (with_reducible repeat (first | apply Kd.R_alloc | apply Kd.R_drewN | apply Kd.R_drew)); exact HO_231001.out) (Kd.R_typed HO_4.out) (by decide) hg); have n2_ := Aside0.mk (Kd.R_over' (v := (.slice (some ⟨go42, 0, none⟩) x4_3.length co9)) (by (with_reducible repeat (first | apply Kd.R_alloc | apply Kd.R_drewN | apply Kd.R_drew)); exact HO_238001.out) (Kd.R_typed HO_4.out) (by decide) hg); have n3_ := Aside0.mk (blk_grown (g := gb230) (o := .cells #[.int .i64 t224, .slice Ao13 t225.length co13] 24 (0, 0)) (by (with_reducible repeat (first | refine blk_drewN ?_ _ | refine blk_drew ?_ | refine blk_alloc ?_ _)); exact BK230.out) hg (Kd.R_ne HO_4.out BK230.out (by decide))); have n4_ := Aside0.mk (blk_grown (g := gb237) (o := .cells #[.int .i64 t231, .slice Ao18 t232.length co18] 24 (0, 0)) (by (with_reducible repeat (first | refine blk_drewN ?_ _ | refine blk_drew ?_ | refine blk_alloc ?_ _)); exact BK237.out) hg (Kd.R_ne HO_4.out BK237.out (by decide))); have n5_ := Aside0.mk ((by rw [hw]; exact below_set (HB.out) GB42.out : Below w.heap.size w w44)); clear HO_4; clear HO_231001; clear HO_238001; clear BK230; clear BK237; clear HB; have HO_4 := n0_; have HO_231001 := n1_; have HO_238001 := n2_; have BK230 := n3_; have BK237 := n4_; have HB := n5_; clear n0_ n1_ n2_ n3_ n4_ n5_; clear hg hw hp_))
          (try simp only [← hl4_3])
          go_roundg k3
          case measure => have := HJ5.out; have := HJ35.out; have := HK3.out; omega
          case rel => exact ⟨(y242), (wrap64 (x12_3 + 3)), (by first | rfl | (simp; done) | (simp [*]; done)), H', ⟨by have := HJ5.out; have := HJ35.out; have := HK3.out; omega⟩, ⟨by (try simp only [hl4_3]); (with_reducible repeat (first | apply Kd.R_alloc | apply Kd.R_drewN | apply Kd.R_drew)); exact HO_4.out⟩, ⟨by (try simp only [hl4_3]); (with_reducible repeat (first | apply Kd.R_alloc | apply Kd.R_drewN | apply Kd.R_drew)); exact HO_231001.out⟩, ⟨by (try simp only [hl4_3]); (with_reducible repeat (first | apply Kd.R_alloc | apply Kd.R_drewN | apply Kd.R_drew)); exact HO_238001.out⟩, ⟨by (try simp only [hl4_3]); (with_reducible repeat (first | refine blk_drewN ?_ _ | refine blk_drew ?_ | refine blk_alloc ?_ _)); exact BK230.out⟩, ⟨by (try simp only [hl4_3]); (with_reducible repeat (first | refine blk_drewN ?_ _ | refine blk_drew ?_ | refine blk_alloc ?_ _)); exact BK237.out⟩, ⟨by repeat (first | (with_reducible first | exact HB.out | apply below_alloc | apply pw_below_drewN | apply below_drew1 | refine below_set ?_ GE230.out | refine below_set ?_ GE237.out) | exact HB.out)⟩⟩
         ·rw [if_neg c41] at H
          exact absurd H (by simp)
        ·rw [if_neg c40] at H
         have c40b0 : decide (x12_3 < (x4_3.length : Int)) = false := decide_eq_false c40
         clear c40
         replace H := Option.bind_eq_some_iff.mp H
         obtain ⟨t243, A450, H⟩ := H
         replace H : ((code_Decode.f x4_3).bind fun bt246 => ((fugueref01_Decode.f t243).bind fun bt252 => ((fugueref00_EqProgram.f k3 bt246.1 bt246.2.1 bt252.1 bt252.2.1).bind fun t258 => (if t220 = true then (if t258 = true then (if bt246.2.2.1 = bt252.2.2.1 then (some (bt246.2.2.2 == bt252.2.2.2)) else (some false)) else (some false)) else (some false))))) = some r := H
         have A45 := Aside0.mk A450
         clear A450
         replace H := Option.bind_eq_some_iff.mp H
         obtain ⟨⟨t246, t247, t250, t251⟩, A460, H⟩ := H
         replace H : ((fugueref01_Decode.f t243).bind fun bt252 => ((fugueref00_EqProgram.f k3 t246 t247 bt252.1 bt252.2.1).bind fun t258 => (if t220 = true then (if t258 = true then (if t250 = bt252.2.2.1 then (some (t251 == bt252.2.2.2)) else (some false)) else (some false)) else (some false)))) = some r := H
         have A46 := Aside0.mk A460
         clear A460
         replace H := Option.bind_eq_some_iff.mp H
         obtain ⟨⟨t252, t253, t256, t257⟩, A470, H⟩ := H
         replace H : ((fugueref00_EqProgram.f k3 t246 t247 t252 t253).bind fun t258 => (if t220 = true then (if t258 = true then (if t250 = t256 then (some (t251 == t257)) else (some false)) else (some false)) else (some false))) = some r := H
         have A47 := Aside0.mk A470
         clear A470
         replace H := Option.bind_eq_some_iff.mp H
         obtain ⟨t258, A480, H⟩ := H
         replace H : (if t220 = true then (if t258 = true then (if t250 = t256 then (some (t251 == t257)) else (some false)) else (some false)) else (some false)) = some r := H
         have A48 := Aside0.mk A480
         clear A480
         by_cases c49 : t220 = true
         ·subst c49
          have H1 : (if t258 = true then (if t250 = t256 then (some (t251 == t257)) else (some false)) else (some false)) = some r := by rw [if_pos rfl] at H; exact H
          clear H
          have H := H1
          clear H1
          by_cases c50 : t258 = true
          ·subst c50
           have H1 : (if t250 = t256 then (some (t251 == t257)) else (some false)) = some r := by rw [if_pos rfl] at H; exact H
           clear H
           have H := H1
           clear H1
           by_cases c51 : t250 = t256
           ·rw [if_pos c51] at H
            have c51b0 : (t250 == t256) = true := beq_iff_eq.mpr c51
            have c51b1 : (t250 != t256) = false := bne_eq_false_iff_eq.mpr c51
            clear c51
            obtain rfl := Option.some.inj H
            go_wp2_with (first | ((with_reducible refine gate_callee (f := 27) rfl ?_); refine goesL_ (some 68) rfl rfl Tryd.func27 (by kernel_rfl) rfl #[.slice Ao9 x4_3.length co9] rfl (by (try simp only [List.map_toArray, List.map_cons, List.map_nil]); first | done | rfl | (simp only [List.length_drop, List.length_take]; rfl)) ?_; (with_reducible refine (fugueref00_CopyBytes.calls k3 _ _ x4_3 t243 _ ?side1 ?side2 A45.out).mono ?_); (case side1 => repeat (first | exact (Kd.R_reads' HO_4.out).2.2 | (with_reducible refine Kd.C_alloc ?_ _) | (with_reducible refine Kd.C_drewN ?_ _) | (with_reducible refine Kd.C_drew ?_))); (case side2 => exact (Kd.R_reads' HO_4.out).2.1); rintro e w52 ⟨v244, rfl, ho0, hb⟩; refine ⟨_, rfl, ?_⟩; have n0_ := Aside0.mk (Kd.R_elder' (by (with_reducible repeat (first | apply Kd.R_alloc | apply Kd.R_drewN | apply Kd.R_drew)); exact HO_4.out) (Kd.R_base ho0) hb); have n1_ := Aside0.mk (Kd.R_below (by (with_reducible repeat (first | apply Kd.R_alloc | apply Kd.R_drewN | apply Kd.R_drew)); exact HO_231001.out) hb); have n2_ := Aside0.mk (Kd.R_below (by (with_reducible repeat (first | apply Kd.R_alloc | apply Kd.R_drewN | apply Kd.R_drew)); exact HO_238001.out) hb); have n3_ := Aside0.mk (Kd.R_lower (Kd.R_new' ho0 (Kd.R_lt (by (with_reducible repeat (first | apply Kd.R_alloc | apply Kd.R_drewN | apply Kd.R_drew)); exact HO_4.out))) (below_size (by repeat (first | (with_reducible first | exact HB.out | apply below_alloc | apply pw_below_drewN | apply below_drew1 | refine below_set ?_ GE230.out | refine below_set ?_ GE237.out) | exact HB.out)))); have n4_ := Aside0.mk (blk_below (g := gb230) (o := .cells #[.int .i64 t224, .slice Ao13 t225.length co13] 24 (0, 0)) (by (with_reducible repeat (first | refine blk_drewN ?_ _ | refine blk_drew ?_ | refine blk_alloc ?_ _)); exact BK230.out) hb); have n5_ := Aside0.mk (blk_below (g := gb237) (o := .cells #[.int .i64 t231, .slice Ao18 t232.length co18] 24 (0, 0)) (by (with_reducible repeat (first | refine blk_drewN ?_ _ | refine blk_drew ?_ | refine blk_alloc ?_ _)); exact BK237.out) hb); have n6_ := Aside0.mk (below_step (by repeat (first | (with_reducible first | exact HB.out | apply below_alloc | apply pw_below_drewN | apply below_drew1 | refine below_set ?_ GE230.out | refine below_set ?_ GE237.out) | exact HB.out)) hb); clear HO_4; clear HO_231001; clear HO_238001; clear BK230; clear BK237; clear HB; have HO_4 := n0_; have HO_231001 := n1_; have HO_238001 := n2_; have HO245 := n3_; have BK230 := n4_; have BK237 := n5_; have HB := n6_; clear n0_ n1_ n2_ n3_ n4_ n5_ n6_; (try clear hb); (try clear hb2); (try clear hk); (try clear hi); (try clear ho0)) | ((with_reducible refine gate_callee (f := 24) rfl ?_); refine goesL_ (some 71) rfl rfl Tryd.func24 (by kernel_rfl) rfl #[.slice Ao9 x4_3.length co9] rfl (by (try simp only [List.map_toArray, List.map_cons, List.map_nil]); first | done | rfl | (simp only [List.length_drop, List.length_take]; rfl)) ?_; (with_reducible refine (code_Decode.calls _ _ x4_3 t246 t247 t250 t251 _ ?side1 ?side2 A46.out ?tab).mono ?_); (case tab => exact Tab.below HTab.out (by repeat (first | (with_reducible first | exact HB.out | apply below_alloc | apply pw_below_drewN | apply below_drew1 | refine below_set ?_ GE230.out | refine below_set ?_ GE237.out) | exact HB.out))); (case side1 => repeat (first | exact (Kd.R_reads' HO_4.out).2.2 | (with_reducible refine Kd.C_alloc ?_ _) | (with_reducible refine Kd.C_drewN ?_ _) | (with_reducible refine Kd.C_drew ?_))); (case side2 => exact (Kd.R_reads' HO_4.out).2.1); rintro e w53 ⟨v248, rfl, ho0, hb⟩; refine ⟨_, rfl, ?_⟩; have n0_ := Aside0.mk (Kd.R_below (by (with_reducible repeat (first | apply Kd.R_alloc | apply Kd.R_drewN | apply Kd.R_drew)); exact HO_4.out) hb); have n1_ := Aside0.mk (Kd.R_elder' (by (with_reducible repeat (first | apply Kd.R_alloc | apply Kd.R_drewN | apply Kd.R_drew)); exact HO_231001.out) (Kd.R_base ho0) hb); have n2_ := Aside0.mk (Kd.R_elder' (by (with_reducible repeat (first | apply Kd.R_alloc | apply Kd.R_drewN | apply Kd.R_drew)); exact HO_238001.out) (Kd.R_base ho0) hb); have n3_ := Aside0.mk (Kd.R_below (by (with_reducible repeat (first | apply Kd.R_alloc | apply Kd.R_drewN | apply Kd.R_drew)); exact HO245.out) hb); have n4_ := Aside0.mk (Kd.R_lower (Kd.R_new' (Kd.R_new' ho0 (Kd.R_lt (by (with_reducible repeat (first | apply Kd.R_alloc | apply Kd.R_drewN | apply Kd.R_drew)); exact HO_231001.out))) (Kd.R_lt (by (with_reducible repeat (first | apply Kd.R_alloc | apply Kd.R_drewN | apply Kd.R_drew)); exact HO_238001.out))) (below_size (by repeat (first | (with_reducible first | exact HB.out | apply below_alloc | apply pw_below_drewN | apply below_drew1 | refine below_set ?_ GE230.out | refine below_set ?_ GE237.out) | exact HB.out)))); have n5_ := Aside0.mk (blk_below (g := gb230) (o := .cells #[.int .i64 t224, .slice Ao13 t225.length co13] 24 (0, 0)) (by (with_reducible repeat (first | refine blk_drewN ?_ _ | refine blk_drew ?_ | refine blk_alloc ?_ _)); exact BK230.out) hb); have n6_ := Aside0.mk (blk_below (g := gb237) (o := .cells #[.int .i64 t231, .slice Ao18 t232.length co18] 24 (0, 0)) (by (with_reducible repeat (first | refine blk_drewN ?_ _ | refine blk_drew ?_ | refine blk_alloc ?_ _)); exact BK237.out) hb); have n7_ := Aside0.mk (below_step (by repeat (first | (with_reducible first | exact HB.out | apply below_alloc | apply pw_below_drewN | apply below_drew1 | refine below_set ?_ GE230.out | refine below_set ?_ GE237.out) | exact HB.out)) hb); clear HO_4; clear HO_231001; clear HO_238001; clear HO245; clear BK230; clear BK237; clear HB; have HO_4 := n0_; have HO_231001 := n1_; have HO_238001 := n2_; have HO245 := n3_; have HO249 := n4_; have BK230 := n5_; have BK237 := n6_; have HB := n7_; clear n0_ n1_ n2_ n3_ n4_ n5_ n6_ n7_; (try clear hb); (try clear hb2); (try clear hk); (try clear hi); (try clear ho0); have hnb54 := NB230_237.out; have hnc54 := NB237_230.out; have hcz55_0 : w53.cell? ⟨gb230, 0, none⟩ = some (.int .i64 t224) := (blk_cell BK230.out 0).trans rfl; have hcz55_1 : w53.cell? ⟨gb230, 1, none⟩ = some (.slice Ao13 t225.length co13) := (blk_cell BK230.out 1).trans rfl; have hfz55_0 := blk_frozen BK230.out 0; have hfz55_1 := blk_frozen BK230.out 1; obtain ⟨Ao56, co56, eo56⟩ := Kd.R_slice HO249.out; subst eo56; obtain ⟨Ao57, co57, eo57⟩ := Kd.R_slice HO245.out; subst eo57) | ((with_reducible refine gate_callee (f := 25) rfl ?_); refine goesL_ (some 77) rfl rfl Tryd.func25 (by kernel_rfl) rfl #[.slice Ao57 t243.length co57] rfl (by (try simp only [List.map_toArray, List.map_cons, List.map_nil]); first | done | rfl | (simp only [List.length_drop, List.length_take]; rfl)) ?_; (with_reducible refine (fugueref01_Decode.calls _ _ t243 t252 t253 t256 t257 _ ?side1 ?side2 A47.out).mono ?_); (case side1 => refine (Kd.R_reads' (e := 5) (base := w.heap.size) (ok := fun k_ => (True ∧ some k_ ≠ (.slice Ao9 x4_3.length co9 : Value).ownBlock)) (n := t243.length) (c := co57) ?_).2.2; exact (by (with_reducible repeat (first | apply Kd.R_alloc | apply Kd.R_drewN | apply Kd.R_drew)); exact (Kd.R_mono (Kd.R_far (p := ⟨gb230, 1, none⟩) (Kd.R_far (p := ⟨gb230, 0, none⟩) (Kd.R_types HO245.out BK230.out (by decide)) (fun _ hk => hk.2) (.int .i64 t246)) (fun _ hk => hk.2) (.slice Ao56 t247.length co56)) (fun _ h_ => h_.1)))); (case side2 => exact (Kd.R_reads' HO245.out).2.1); rintro e w58 ⟨v254, rfl, ho0, hb⟩; refine ⟨_, rfl, ?_⟩; have n0_ := Aside0.mk (Kd.R_below (by (with_reducible repeat (first | apply Kd.R_alloc | apply Kd.R_drewN | apply Kd.R_drew)); exact (Kd.R_mono (Kd.R_far (p := ⟨gb230, 1, none⟩) (Kd.R_far (p := ⟨gb230, 0, none⟩) (Kd.R_types HO_4.out BK230.out (by decide)) (fun _ hk => hk.2) (.int .i64 t246)) (fun _ hk => hk.2) (.slice Ao56 t247.length co56)) (fun _ h_ => h_.1))) hb); have n1_ := Aside0.mk (Kd.R_elder' (by (with_reducible repeat (first | apply Kd.R_alloc | apply Kd.R_drewN | apply Kd.R_drew)); exact (Kd.R_mono (Kd.R_far (p := ⟨gb230, 1, none⟩) (Kd.R_far (p := ⟨gb230, 0, none⟩) (Kd.R_types HO_231001.out BK230.out (by decide)) (fun _ hk => hk.2) (.int .i64 t246)) (fun _ hk => hk.2) (.slice Ao56 t247.length co56)) (fun _ h_ => h_.1))) (Kd.R_base ho0) hb); have n2_ := Aside0.mk (Kd.R_elder' (by (with_reducible repeat (first | apply Kd.R_alloc | apply Kd.R_drewN | apply Kd.R_drew)); exact (Kd.R_mono (Kd.R_far (p := ⟨gb230, 1, none⟩) (Kd.R_far (p := ⟨gb230, 0, none⟩) (Kd.R_types HO_238001.out BK230.out (by decide)) (fun _ hk => hk.2) (.int .i64 t246)) (fun _ hk => hk.2) (.slice Ao56 t247.length co56)) (fun _ h_ => h_.1))) (Kd.R_base ho0) hb); have n3_ := Aside0.mk (Kd.R_below (by (with_reducible repeat (first | apply Kd.R_alloc | apply Kd.R_drewN | apply Kd.R_drew)); exact (Kd.R_mono (Kd.R_far (p := ⟨gb230, 1, none⟩) (Kd.R_far (p := ⟨gb230, 0, none⟩) (Kd.R_types HO245.out BK230.out (by decide)) (fun _ hk => hk.2) (.int .i64 t246)) (fun _ hk => hk.2) (.slice Ao56 t247.length co56)) (fun _ h_ => h_.1))) hb); have n4_ := Aside0.mk (Kd.R_elder' (by (with_reducible repeat (first | apply Kd.R_alloc | apply Kd.R_drewN | apply Kd.R_drew)); exact (Kd.R_mono (Kd.R_far (p := ⟨gb230, 1, none⟩) (Kd.R_far (p := ⟨gb230, 0, none⟩) (Kd.R_types HO249.out BK230.out (by decide)) (fun _ hk => hk.2) (.int .i64 t246)) (fun _ hk => hk.2) (.slice Ao56 t247.length co56)) (fun _ h_ => h_.1))) (Kd.R_base ho0) hb); have n5_ := Aside0.mk (Kd.R_lower (Kd.R_new' (Kd.R_new' (Kd.R_new' ho0 (Kd.R_lt (by (with_reducible repeat (first | apply Kd.R_alloc | apply Kd.R_drewN | apply Kd.R_drew)); exact (Kd.R_mono (Kd.R_far (p := ⟨gb230, 1, none⟩) (Kd.R_far (p := ⟨gb230, 0, none⟩) (Kd.R_types HO_231001.out BK230.out (by decide)) (fun _ hk => hk.2) (.int .i64 t246)) (fun _ hk => hk.2) (.slice Ao56 t247.length co56)) (fun _ h_ => h_.1))))) (Kd.R_lt (by (with_reducible repeat (first | apply Kd.R_alloc | apply Kd.R_drewN | apply Kd.R_drew)); exact (Kd.R_mono (Kd.R_far (p := ⟨gb230, 1, none⟩) (Kd.R_far (p := ⟨gb230, 0, none⟩) (Kd.R_types HO_238001.out BK230.out (by decide)) (fun _ hk => hk.2) (.int .i64 t246)) (fun _ hk => hk.2) (.slice Ao56 t247.length co56)) (fun _ h_ => h_.1))))) (Kd.R_lt (by (with_reducible repeat (first | apply Kd.R_alloc | apply Kd.R_drewN | apply Kd.R_drew)); exact (Kd.R_mono (Kd.R_far (p := ⟨gb230, 1, none⟩) (Kd.R_far (p := ⟨gb230, 0, none⟩) (Kd.R_types HO249.out BK230.out (by decide)) (fun _ hk => hk.2) (.int .i64 t246)) (fun _ hk => hk.2) (.slice Ao56 t247.length co56)) (fun _ h_ => h_.1))))) (below_size (by repeat (first | (with_reducible first | exact HB.out | apply below_alloc | apply pw_below_drewN | apply below_drew1 | refine below_set ?_ GE230.out | refine below_set ?_ GE237.out) | exact HB.out)))); have n6_ := Aside0.mk (blk_below (g := gb230) (o := .cells #[.int .i64 t246, .slice Ao56 t247.length co56] 24 (0, 0)) (by (with_reducible repeat (first | refine blk_drewN ?_ _ | refine blk_drew ?_ | refine blk_alloc ?_ _)); refine blk_put (cs := #[.int .i64 t246, .slice Ao13 t225.length co13]) ?_ 1 _ rfl; (with_reducible repeat (first | refine blk_drewN ?_ _ | refine blk_drew ?_ | refine blk_alloc ?_ _)); refine blk_put (cs := #[.int .i64 t224, .slice Ao13 t225.length co13]) ?_ 0 _ rfl; (with_reducible repeat (first | refine blk_drewN ?_ _ | refine blk_drew ?_ | refine blk_alloc ?_ _)); exact BK230.out) hb); have n7_ := Aside0.mk (blk_below (g := gb237) (o := .cells #[.int .i64 t231, .slice Ao18 t232.length co18] 24 (0, 0)) (by (with_reducible repeat (first | refine blk_drewN ?_ _ | refine blk_drew ?_ | refine blk_alloc ?_ _)); refine blk_far ?_ NB237_230.out _; (with_reducible repeat (first | refine blk_drewN ?_ _ | refine blk_drew ?_ | refine blk_alloc ?_ _)); refine blk_far ?_ NB237_230.out _; (with_reducible repeat (first | refine blk_drewN ?_ _ | refine blk_drew ?_ | refine blk_alloc ?_ _)); exact BK237.out) hb); have n8_ := Aside0.mk (below_step (by repeat (first | (with_reducible first | exact HB.out | apply below_alloc | apply pw_below_drewN | apply below_drew1 | refine below_set ?_ GE230.out | refine below_set ?_ GE237.out) | exact HB.out)) hb); clear HO_4; clear HO_231001; clear HO_238001; clear HO245; clear HO249; clear BK230; clear BK237; clear HB; have HO_4 := n0_; have HO_231001 := n1_; have HO_238001 := n2_; have HO245 := n3_; have HO249 := n4_; have HO255 := n5_; have BK230 := n6_; have BK237 := n7_; have HB := n8_; clear n0_ n1_ n2_ n3_ n4_ n5_ n6_ n7_ n8_; (try clear hb); (try clear hb2); (try clear hk); (try clear hi); (try clear ho0); have hcz59_0 : w58.cell? ⟨gb237, 0, none⟩ = some (.int .i64 t231) := (blk_cell BK237.out 0).trans rfl; have hcz59_1 : w58.cell? ⟨gb237, 1, none⟩ = some (.slice Ao18 t232.length co18) := (blk_cell BK237.out 1).trans rfl; have hfz59_0 := blk_frozen BK237.out 0; have hfz59_1 := blk_frozen BK237.out 1; obtain ⟨Ao60, co60, eo60⟩ := Kd.R_slice HO255.out; subst eo60; have hcz61_0 : w58.cell? ⟨gb230, 0, none⟩ = some (.int .i64 t246) := (blk_cell BK230.out 0).trans rfl; have hcz61_1 : w58.cell? ⟨gb230, 1, none⟩ = some (.slice Ao56 t247.length co56) := (blk_cell BK230.out 1).trans rfl; have hfz61_0 := blk_frozen BK230.out 0; have hfz61_1 := blk_frozen BK230.out 1) | ((with_reducible refine gate_callee (f := 14) rfl ?_); refine goesL_ (some 83) rfl rfl Tryd.func14 (by kernel_rfl) rfl #[.agg #[.int .i64 t246, .slice Ao56 t247.length co56], .agg #[.int .i64 t252, .slice Ao60 t253.length co60]] rfl (by (try simp only [List.map_toArray, List.map_cons, List.map_nil]); first | done | rfl | (simp only [List.length_drop, List.length_take]; rfl)) ?_; (with_reducible refine (fugueref00_EqProgram.calls k3 t246 _ _ t247 t252 _ _ t253 true rfl _ ?side1 ?side2 ?side3 ?side4 A48.out).mono ?_); (case side1 => refine (Kd.R_reads' (e := 46) (base := w.heap.size) (ok := fun k_ => (((True ∧ some k_ ≠ (.slice Ao13 t225.length co13 : Value).ownBlock) ∧ some k_ ≠ (.slice Ao18 t232.length co18 : Value).ownBlock) ∧ some k_ ≠ (.slice Ao60 t253.length co60 : Value).ownBlock)) (n := t247.length) (c := co56) ?_).2.2; exact (by (with_reducible repeat (first | apply Kd.R_alloc | apply Kd.R_drewN | apply Kd.R_drew)); exact (Kd.R_mono (Kd.R_far (p := ⟨gb237, 1, none⟩) (Kd.R_far (p := ⟨gb237, 0, none⟩) (Kd.R_types HO249.out BK237.out (by decide)) (fun _ hk => hk.2) (.int .i64 t252)) (fun _ hk => hk.2) (.slice Ao60 t253.length co60)) (fun _ h_ => h_.1)))); (case side2 => exact (Kd.R_reads' HO249.out).2.1); (case side3 => refine (Kd.R_reads' (e := 46) (base := w.heap.size) (ok := fun k_ => (((True ∧ some k_ ≠ (.slice Ao13 t225.length co13 : Value).ownBlock) ∧ some k_ ≠ (.slice Ao18 t232.length co18 : Value).ownBlock) ∧ some k_ ≠ (.slice Ao56 t247.length co56 : Value).ownBlock)) (n := t253.length) (c := co60) ?_).2.2; exact (by (with_reducible repeat (first | apply Kd.R_alloc | apply Kd.R_drewN | apply Kd.R_drew)); exact (Kd.R_mono (Kd.R_far (p := ⟨gb237, 1, none⟩) (Kd.R_far (p := ⟨gb237, 0, none⟩) (Kd.R_types HO255.out BK237.out (by decide)) (fun _ hk => hk.2) (.int .i64 t252)) (fun _ hk => hk.2) (.slice Ao60 t253.length co60)) (fun _ h_ => h_.1)))); (case side4 => exact (Kd.R_reads' HO255.out).2.1); rintro e w62 ⟨rfl, hb⟩; refine ⟨_, rfl, ?_⟩; replace HO_4 := Aside0.mk (Kd.R_below (by (with_reducible repeat (first | apply Kd.R_alloc | apply Kd.R_drewN | apply Kd.R_drew)); exact (Kd.R_mono (Kd.R_far (p := ⟨gb237, 1, none⟩) (Kd.R_far (p := ⟨gb237, 0, none⟩) (Kd.R_types HO_4.out BK237.out (by decide)) (fun _ hk => hk.2) (.int .i64 t252)) (fun _ hk => hk.2) (.slice Ao60 t253.length co60)) (fun _ h_ => h_.1))) hb); replace HO_231001 := Aside0.mk (Kd.R_below (by (with_reducible repeat (first | apply Kd.R_alloc | apply Kd.R_drewN | apply Kd.R_drew)); exact (Kd.R_mono (Kd.R_far (p := ⟨gb237, 1, none⟩) (Kd.R_far (p := ⟨gb237, 0, none⟩) (Kd.R_types HO_231001.out BK237.out (by decide)) (fun _ hk => hk.2) (.int .i64 t252)) (fun _ hk => hk.2) (.slice Ao60 t253.length co60)) (fun _ h_ => h_.1))) hb); replace HO_238001 := Aside0.mk (Kd.R_below (by (with_reducible repeat (first | apply Kd.R_alloc | apply Kd.R_drewN | apply Kd.R_drew)); exact (Kd.R_mono (Kd.R_far (p := ⟨gb237, 1, none⟩) (Kd.R_far (p := ⟨gb237, 0, none⟩) (Kd.R_types HO_238001.out BK237.out (by decide)) (fun _ hk => hk.2) (.int .i64 t252)) (fun _ hk => hk.2) (.slice Ao60 t253.length co60)) (fun _ h_ => h_.1))) hb); replace HO245 := Aside0.mk (Kd.R_below (by (with_reducible repeat (first | apply Kd.R_alloc | apply Kd.R_drewN | apply Kd.R_drew)); exact (Kd.R_mono (Kd.R_far (p := ⟨gb237, 1, none⟩) (Kd.R_far (p := ⟨gb237, 0, none⟩) (Kd.R_types HO245.out BK237.out (by decide)) (fun _ hk => hk.2) (.int .i64 t252)) (fun _ hk => hk.2) (.slice Ao60 t253.length co60)) (fun _ h_ => h_.1))) hb); replace HO249 := Aside0.mk (Kd.R_below (by (with_reducible repeat (first | apply Kd.R_alloc | apply Kd.R_drewN | apply Kd.R_drew)); exact (Kd.R_mono (Kd.R_far (p := ⟨gb237, 1, none⟩) (Kd.R_far (p := ⟨gb237, 0, none⟩) (Kd.R_types HO249.out BK237.out (by decide)) (fun _ hk => hk.2) (.int .i64 t252)) (fun _ hk => hk.2) (.slice Ao60 t253.length co60)) (fun _ h_ => h_.1))) hb); replace HO255 := Aside0.mk (Kd.R_below (by (with_reducible repeat (first | apply Kd.R_alloc | apply Kd.R_drewN | apply Kd.R_drew)); exact (Kd.R_mono (Kd.R_far (p := ⟨gb237, 1, none⟩) (Kd.R_far (p := ⟨gb237, 0, none⟩) (Kd.R_types HO255.out BK237.out (by decide)) (fun _ hk => hk.2) (.int .i64 t252)) (fun _ hk => hk.2) (.slice Ao60 t253.length co60)) (fun _ h_ => h_.1))) hb); replace BK230 := Aside0.mk (blk_below (g := gb230) (o := .cells #[.int .i64 t246, .slice Ao56 t247.length co56] 24 (0, 0)) (by (with_reducible repeat (first | refine blk_drewN ?_ _ | refine blk_drew ?_ | refine blk_alloc ?_ _)); refine blk_far ?_ NB230_237.out _; (with_reducible repeat (first | refine blk_drewN ?_ _ | refine blk_drew ?_ | refine blk_alloc ?_ _)); refine blk_far ?_ NB230_237.out _; (with_reducible repeat (first | refine blk_drewN ?_ _ | refine blk_drew ?_ | refine blk_alloc ?_ _)); exact BK230.out) hb); replace BK237 := Aside0.mk (blk_below (g := gb237) (o := .cells #[.int .i64 t252, .slice Ao60 t253.length co60] 24 (0, 0)) (by (with_reducible repeat (first | refine blk_drewN ?_ _ | refine blk_drew ?_ | refine blk_alloc ?_ _)); refine blk_put (cs := #[.int .i64 t252, .slice Ao18 t232.length co18]) ?_ 1 _ rfl; (with_reducible repeat (first | refine blk_drewN ?_ _ | refine blk_drew ?_ | refine blk_alloc ?_ _)); refine blk_put (cs := #[.int .i64 t231, .slice Ao18 t232.length co18]) ?_ 0 _ rfl; (with_reducible repeat (first | refine blk_drewN ?_ _ | refine blk_drew ?_ | refine blk_alloc ?_ _)); exact BK237.out) hb); replace HB := Aside0.mk (below_step (by repeat (first | (with_reducible first | exact HB.out | apply below_alloc | apply pw_below_drewN | apply below_drew1 | refine below_set ?_ GE230.out | refine below_set ?_ GE237.out) | exact HB.out)) hb); (try clear hb); (try clear hb2); (try clear hk); (try clear hi)))
            go_ret
            exact ⟨by first | rfl | (simp [errW_none, errW_some] <;> rfl) | (simp [*, errW_none, errW_some] <;> rfl), by repeat (first | (with_reducible first | exact HB.out | apply below_alloc | apply pw_below_drewN | apply below_drew1 | refine below_set ?_ GE230.out | refine below_set ?_ GE237.out) | exact HB.out)⟩
           ·rw [if_neg c51] at H
            rw [Option.some.injEq] at H; subst H; cases hr_
          ·replace c50 := Bool.eq_false_iff.mpr c50
           subst c50
           have H1 : (some false) = some r := by rw [if_neg (show ¬ (false = true) by decide)] at H; exact H
           rw [Option.some.injEq] at H1; subst H1; cases hr_
         ·replace c49 := Bool.eq_false_iff.mpr c49
          subst c49
          have H1 : (some false) = some r := by rw [if_neg (show ¬ (false = true) by decide)] at H; exact H
          rw [Option.some.injEq] at H1; subst H1; cases hr_
end Go.Proofs.YteonppgdmhakoaaDoor.PC
namespace Go.Proofs.YteonppgdmhakoaaDoor.PC
open Go.RowKit Go.Proofs.YteonppgdmhakoaaDoorW.PrintWords Go.Proofs.YteonppgdmhakoaaDoorW.PrintLast Go.Proofs.YteonppgdmhakoaaDoorW.PrintMore
set_option linter.unusedVariables false
set_option linter.unusedSimpArgs false
theorem works_ev : Ev (fun k => fuguelaw01_works.f k) true :=
 Ev.of (fun k => fuguelaw01_works.mono k) (show fuguelaw01_works.f 12 = some true by decide +kernel)
theorem eqbytes_l0 (xs ys : List Int) (h : xs.length = ys.length) (hl : xs.length ≤ 9223372036854775807) : ∀ (d i : Nat), xs.length - i = d → i ≤ xs.length → Ev (fun k => fugueref00_EqBytes.l0 k xs ys (i : Int)) (xs.drop i == ys.drop i) := by
 intro d
 induction d with
 | zero =>
  intro i hd hi
  refine Ev.step (f := fun _ => some true) (fun k => by simp only [fugueref00_EqBytes.l0]; rw [if_neg (by omega)]) ?_
  rw [List.drop_eq_nil_of_le (by omega), List.drop_eq_nil_of_le (by omega)]
  exact Ev.now _
 | succ d ih =>
  intro i hd hi
  have hx : i < xs.length := by omega
  have hy : i < ys.length := by omega
  have e1 : rd xs (i : Int) = xs[i] := rd_get xs i hx
  have e2 : rd ys (i : Int) = ys[i] := rd_get ys i hy
  refine Ev.step (fun k => by simp only [fugueref00_EqBytes.l0]; rw [if_pos (by omega), if_pos (by omega), if_pos (by omega), e1, e2, wrap_in (by omega) (by omega)]) ?_
  rw [List.drop_eq_getElem_cons hx, List.drop_eq_getElem_cons hy, List.cons_beq_cons]
  by_cases he : xs[i] = ys[i]
  ·simp only [if_pos he]
   rw [beq_iff_eq.2 he, Bool.true_and]
   exact ih (i + 1) (by omega) (by omega)
  ·simp only [if_neg he]
   rw [beq_eq_false_iff_ne.2 he, Bool.false_and]
   exact Ev.now _
theorem eqbytes_ev (xs ys : List Int) (hl : xs.length ≤ 9223372036854775807) : Ev (fun k => fugueref00_EqBytes.f k xs ys) (xs == ys) := by
 unfold fugueref00_EqBytes.f
 by_cases h : xs.length = ys.length
 ·simp only [if_pos (show (xs.length : Int) = (ys.length : Int) by omega)]
  simpa using eqbytes_l0 xs ys h hl xs.length 0 (by omega) (by omega)
 ·simp only [if_neg (show ¬ (xs.length : Int) = (ys.length : Int) by omega)]
  rw [beq_eq_false_iff_ne.2 (fun he => h (by rw [he]))]
  exact Ev.now _
theorem copy_ev (xs : List Int) (hl : xs.length ≤ 140737488355328) : Ev (fun k => fugueref00_CopyBytes.f k xs) xs := by
 have gen : ∀ (d i : Nat), xs.length - i = d → i ≤ xs.length → Ev (fun k => fugueref00_CopyBytes.l0 k xs (xs.take i) (i : Int)) xs := by
  intro d
  induction d with
  | zero =>
   intro i hd hi
   refine Ev.step (f := fun _ => some xs) (fun k => by simp only [fugueref00_CopyBytes.l0]; rw [if_neg (by omega), List.take_of_length_le (by omega)]) (Ev.now _)
  | succ d ih =>
   intro i hd hi
   have hx : i < xs.length := by omega
   have e1 : rd xs (i : Int) = xs[i] := rd_get xs i hx
   refine Ev.step (fun k => by simp only [fugueref00_CopyBytes.l0]; rw [if_pos (by omega), if_pos (by omega), if_pos (by rw [List.length_take]; omega), e1, wrap_in (by omega) (by omega), ← List.take_succ_eq_append_getElem hx]) ?_
   exact ih (i + 1) (by omega) (by omega)
 unfold fugueref00_CopyBytes.f
 simpa using gen xs.length 0 (by omega) (by omega)
theorem all_bytes {xs : List Int} (h : Bytes xs) : (xs.all fun x => decide (0 ≤ x ∧ x ≤ 255)) = true := by
 rw [List.all_eq_true]
 intro x hx
 exact decide_eq_true (h x hx)
theorem dec_f {xs : List Int} (h : Bytes xs) : code_Decode.f xs = some (decOut xs) := by
 unfold code_Decode.f
 rw [if_pos (all_bytes h)]
end Go.Proofs.YteonppgdmhakoaaDoor.PC
namespace Go.Proofs.YteonppgdmhakoaaDoor.PC
open Go.RowKit
theorem gTab : Tryd.prog.globalNamed "fugue/code.bytes" = some 0 := by kernel_rfl
theorem gTabType : (Tryd.prog.globals[0]?).map (·.type) = some 127 := by kernel_rfl
theorem gTab127 : Tryd.prog.underlying 127 = some (.array 15 3) := by kernel_rfl
theorem cells127 : Tryd.prog.cellsOf 127 = 15 := by kernel_rfl
theorem cellsOf3 : Tryd.prog.cellsOf 3 = 1 := by kernel_rfl
theorem tab_laid {W : World} (h : laidMetH Tryd.prog [("fugue/code.bytes", Rows.laid_fugue_code_bytes)] W) : Tab W := by
 have ht : Lib.TabIs Tryd.prog W "fugue/code.bytes" .i64 tabL := Lib.tabIs_of_head (rest := []) gTab gTabType gTab127 Tryd.underlying3 cellsOf3 cells127 h
 exact fun i hi => ht.cell gTab i hi
noncomputable def laidWorld (os : Os) : World :=
 { World.holding Tryd.prog os ⟨#[], #[], []⟩ with heap := (World.holding Tryd.prog os ⟨#[], #[], []⟩).heap.modify 0 fun
   | .cells _ t frozen => .cells #[.int .i64 0, .int .i64 8, .int .i64 0, .int .i64 0, .int .i64 0, .int .i64 0, .int .i64 1, .int .i64 1, .int .i64 1, .int .i64 1, .int .i64 1, .int .i64 2, .int .i64 0, .int .i64 2, .int .i64 2] t frozen
   | o => o }
theorem weights_at {H : Type} {ts : List TypeId} {ds : List (DataW H)} (h : (DataW.weightsEach Tryd.prog ts ds).all (· ≤ reachBytes) = true) {j : Nat} {t : TypeId} {d : DataW H} (ht : ts[j]? = some t) (hd : ds[j]? = some d) : ∀ n ∈ d.weights Tryd.prog t, n ≤ reachBytes := fun n hn => by
 have h1 := DataW.weights_mem_each ht hd n hn
 rw [List.all_eq_true] at h
 simpa using h n h1
end Go.Proofs.YteonppgdmhakoaaDoor.PC
namespace Go.Proofs.YteonppgdmhakoaaDoor.Open
open Go.RowKit Go.Deep Go.Proofs.YteonppgdmhakoaaDoorW.PrintWords
set_option linter.unusedVariables false
set_option linter.unusedSimpArgs false
structure Rd (P : Program) (t : TypeId) {α : Type} (d : Kd α) (ok : α → Prop) : Prop where
 sz : P.cellsOf t = d.sz
 read : ∀ {H : Type} {enc : TypeId × Value → H} {w : World} {fuel : Nat} {cs : List Value} {x : DataW H × List MemPlace}, DataW.trod enc P w 0 (fun _ => true) true fuel t cs = some x → (∀ n ∈ x.1.weights P t, n ≤ reachBytes) → ∃ a, d.K w a cs ∧ ok a
theorem rd_int {P : Program} {t : TypeId} {k : IntKind} (ht : P.underlying t = some (.int k)) (hs : P.cellsOf t = 1) : Rd P t (Kd.int k) (fun a => (Lit.int k a).wf = true) :=
 ⟨hs, fun {H enc w fuel cs x} h _ => by
  obtain ⟨a, h1, rfl, h2⟩ := DataW.trod_int ht h
  exact ⟨a, h1, h2⟩⟩
theorem mem_all {H : Type} {P : Program} {e : TypeId} : ∀ {l : List (DataW H)} {d : DataW H}, d ∈ l → ∀ n ∈ d.weights P e, n ∈ DataW.weightsAll P e l
 | d' :: l, d, hd, n, hn => by
  unfold DataW.weightsAll
  rcases List.mem_cons.1 hd with rfl | hd
  ·exact List.mem_append.2 (.inl hn)
  ·exact List.mem_append.2 (.inr (mem_all hd n hn))
theorem rd_slice {P : Program} {t e : TypeId} {α : Type} {d : Kd α} {ok : α → Prop} [Inhabited α] (ht : P.underlying t = some (.slice e)) (hs : P.cellsOf t = 1) (he : Rd P e d ok) :
  Rd P t (Kd.slice e d) (fun xs => xs.length * P.bytesOf e ≤ 140737488351232 ∧ ∀ a ∈ xs, ok a) :=
 ⟨hs, fun {H enc w fuel cs x} h hw => by
  rcases open_slice ht h with ⟨rfl, rfl⟩ | ⟨a, len, cap, m, n, D, Pl, rfl, _, hl, hm, hmm, rfl, hel⟩
  ·exact ⟨[], ⟨none, 0, rfl, Nat.le_refl _, Kd.C_nil _ _⟩, by simp, by simp⟩
  ·have hml : len ≤ m := by rw [hmm]; simp; exact hl
   have hch : ∀ i, i < len → ∃ y : α, (∃ c, c.length = d.sz ∧ d.K w y c ∧ ∀ j u, c[j]? = some u → w.cell? (a.add (i * d.sz + j)) = some u) ∧ ok y := by
    intro i hi
    obtain ⟨cs', h1, h2⟩ := hel i (by omega)
    obtain ⟨_, hcl, hcell⟩ := World.cells?_some h1
    have hD : D i ∈ (List.range len).map D := List.mem_map.2 ⟨i, List.mem_range.2 hi, rfl⟩
    obtain ⟨y, hK, hok⟩ := he.read h2 (fun k hk => hw k (by
     unfold DataW.weights
     rw [ht]
     exact List.mem_cons_of_mem _ (List.mem_append.2 (.inl (mem_all hD k hk)))))
    refine ⟨y, ⟨cs', by rw [hcl, he.sz], hK, fun j u hu => ?_⟩, hok⟩
    have hj : j < cs'.length := (List.getElem?_eq_some_iff.1 hu).1
    have := hcell j (by omega)
    rw [hu, Go.Deep.add_add, he.sz] at this
    exact this
   obtain ⟨f, hf⟩ := choose_lt hch
   have hlen : ((List.range len).map f).length = len := by simp
   refine ⟨(List.range len).map f, ⟨some a, cap, by rw [hlen], by rw [hlen]; exact hl, rfl, by rw [hlen]; unfold maxLen at hm; omega, fun _ => ⟨a, rfl, fun j p hj => ?_⟩⟩, ?_, ?_⟩
   ·rw [List.getElem?_map] at hj
    obtain ⟨i, hi, rfl⟩ := Option.map_eq_some_iff.1 hj
    have h1 := List.getElem?_eq_some_iff.1 hi
    simp only [List.getElem_range, List.length_range] at h1
    obtain ⟨h2, rfl⟩ := h1
    exact (hf j h2).1
   ·rw [hlen]
    have := hw ((len + (m - len)) * P.bytesOf e) (by
     unfold DataW.weights
     rw [ht]
     simp)
    have h3 : len * P.bytesOf e ≤ (len + (m - len)) * P.bytesOf e := Nat.mul_le_mul_right _ (by omega)
    unfold reachBytes at this
    omega
   ·intro y hy
    obtain ⟨i, hi, rfl⟩ := List.mem_map.1 hy
    exact (hf i (List.mem_range.1 hi)).2⟩
structure RdF (P : Program) (fs : List Field) (off : Nat) {α : Type} (d : Kd α) (ok : α → Prop) : Prop where
 read : ∀ {H : Type} {enc : TypeId × Value → H} {w : World} {fuel : Nat} {cs : List Value} {xs : List (DataW H × List MemPlace)}, (fs.mapM fun f => DataW.trod enc P w 0 (fun _ => true) true fuel f.type ((cs.drop f.offset).take (P.cellsOf f.type))) = some xs →
  (∀ n ∈ DataW.weightsEach P (fs.map (·.type)) (xs.map (·.1)), n ≤ reachBytes) → ∃ a, d.K w a ((cs.drop off).take d.sz) ∧ ok a
end Go.Proofs.YteonppgdmhakoaaDoor.Open
namespace Go.Proofs.YteonppgdmhakoaaDoor.PC
open Go.RowKit Go.Proofs.YteonppgdmhakoaaDoorW.PrintWords Go.Proofs.YteonppgdmhakoaaDoor.Open
set_option linter.unusedVariables false
instance : Inhabited S50 := ⟨z50⟩
instance : Inhabited S46 := ⟨z46⟩
def Wb (a : Int) : Prop := (Lit.int .u8 a).wf = true
theorem bytes5_ : Tryd.prog.bytesOf 5 = 1 := by kernel_rfl
theorem rd5 : Rd Tryd.prog 5 (Kd.int .u8) Wb := rd_int Tryd.underlying5 (by kernel_rfl)
def Ok33 (xs : List Int) : Prop := xs.length * Tryd.prog.bytesOf 5 ≤ 140737488351232 ∧ ∀ a ∈ xs, Wb a
theorem rd33 : Rd Tryd.prog 33 (Kd.slice 5 (Kd.int .u8)) Ok33 := rd_slice Tryd.underlying33 (by kernel_rfl) rd5
theorem ok33 {xs : List Int} (h : Ok33 xs) : xs.length ≤ 140737488351232 ∧ Bytes xs := by
 obtain ⟨h1, h2⟩ := h
 rw [bytes5_] at h1
 refine ⟨by omega, fun x hx => ?_⟩
 have h3 : (decide ((0 : Int) ≤ x) && decide (x ≤ 255)) = true := h2 x hx
 rw [Bool.and_eq_true, decide_eq_true_eq, decide_eq_true_eq] at h3
 exact h3
set_option maxRecDepth 100000 in
theorem open33 {r : Reach} {W : World} {b : Nat} {v : Value} {xs : List Int} (ov : Value.okWide Tryd.prog W r b 33 v) (h : (Kd.slice 5 (Kd.int .u8)).K W xs v.cells.toList) : ∃ A c, v = .slice A xs.length c ∧ xs.length ≤ c ∧ Kd.C (Kd.int .u8) W A xs.length xs := by
 obtain ⟨a, l, c, rfl⟩ := Go.WideShapes.okWide_slice Tryd.underlying33 ov
 obtain ⟨A, c', h1, h2, h3⟩ := h
 cases h1
 exact ⟨_, _, rfl, h2, h3⟩
end Go.Proofs.YteonppgdmhakoaaDoor.PC
namespace Go.Proofs.YteonppgdmhakoaaDoor.PC
open Go.RowKit Go.Proofs.YteonppgdmhakoaaDoorW.PrintWords Go.Proofs.YteonppgdmhakoaaDoorW.PrintLast Go.Proofs.YteonppgdmhakoaaDoorW.PrintMore
set_option linter.unusedVariables false
set_option linter.unusedSimpArgs false
instance decEq50 (a b : S50) : Decidable (a = b) := decidable_of_iff (a.f0 = b.f0 ∧ a.f1 = b.f1 ∧ a.f2 = b.f2 ∧ a.f3 = b.f3 ∧ a.f4 = b.f4 ∧ a.f5 = b.f5 ∧ a.f6 = b.f6) (by cases a; cases b; simp)
instance decEq46 (a b : S46) : Decidable (a = b) := decidable_of_iff (a.f0 = b.f0 ∧ a.f1 = b.f1 ∧ a.f2 = b.f2 ∧ a.f3 = b.f3) (by cases a; cases b; simp)
theorem rd50_get (xs : List S50) (i : Nat) (h : i < xs.length) : rd_T50 xs (i : Int) = xs[i] := by unfold rd_T50; rw [Int.toNat_natCast]; exact getD50 xs i h
theorem rd46_get (xs : List S46) (i : Nat) (h : i < xs.length) : rd_T46 xs (i : Int) = xs[i] := by unfold rd_T46; rw [Int.toNat_natCast]; exact getD46 xs i h
theorem eqints_l0 (xs ys : List Int) (h : xs.length = ys.length) (hl : xs.length ≤ 9223372036854775807) : ∀ (d i : Nat), xs.length - i = d → i ≤ xs.length → Ev (fun k => fugueref00_EqInts.l0 k xs ys (i : Int)) (decide (xs.drop i = ys.drop i)) := by
 intro d
 induction d with
 | zero =>
  intro i hd hi
  refine Ev.step (f := fun _ => some true) (fun k => by simp only [fugueref00_EqInts.l0]; rw [if_neg (by omega)]) ?_
  rw [List.drop_eq_nil_of_le (by omega), List.drop_eq_nil_of_le (by omega)]
  exact Ev.now _
 | succ d ih =>
  intro i hd hi
  have hx : i < xs.length := by omega
  have hy : i < ys.length := by omega
  have e1 : rd xs (i : Int) = xs[i] := rd_get xs i hx
  have e2 : rd ys (i : Int) = ys[i] := rd_get ys i hy
  refine Ev.step (fun k => by simp only [fugueref00_EqInts.l0]; rw [if_pos (by omega), if_pos (by omega), if_pos (by omega), e1, e2, wrap_in (by omega) (by omega)]) ?_
  rw [List.drop_eq_getElem_cons hx, List.drop_eq_getElem_cons hy]
  by_cases he : xs[i] = ys[i]
  ·simp only [if_pos he]
   rw [show decide (xs[i] :: xs.drop (i + 1) = ys[i] :: ys.drop (i + 1)) = decide (xs.drop (i + 1) = ys.drop (i + 1)) from decide_eq_decide.2 ⟨fun e => by injection e, fun e => by rw [he, e]⟩]
   exact ih (i + 1) (by omega) (by omega)
  ·simp only [if_neg he]
   rw [decide_eq_false (fun e => he (by injection e))]
   exact Ev.now _
theorem eqints_ev (xs ys : List Int) (hl : xs.length ≤ 9223372036854775807) : Ev (fun k => fugueref00_EqInts.f k xs ys) (decide (xs = ys)) := by
 unfold fugueref00_EqInts.f
 by_cases h : xs.length = ys.length
 ·simp only [if_pos (show (xs.length : Int) = (ys.length : Int) by omega)]
  simpa using eqints_l0 xs ys h hl xs.length 0 (by omega) (by omega)
 ·simp only [if_neg (show ¬ (xs.length : Int) = (ys.length : Int) by omega)]
  rw [decide_eq_false (fun he => h (by rw [he]))]
  exact Ev.now _
def Fit50 (x : S50) : Prop := x.f5.length ≤ 9223372036854775807 ∧ x.f6.length ≤ 9223372036854775807
theorem eqinstr_ev (x y : S50) (h : Fit50 x) : Ev (fun k => fugueref00_EqInstr.f k x.f0 x.f1 x.f2 x.f3 x.f4 x.f5 x.f6 y.f0 y.f1 y.f2 y.f3 y.f4 y.f5 y.f6) (decide (x = y)) := by
 obtain ⟨a0, a1, a2, a3, a4, a5, a6⟩ := x
 obtain ⟨b0, b1, b2, b3, b4, b5, b6⟩ := y
 unfold fugueref00_EqInstr.f
 simp only
 by_cases c0 : a0 = b0
 case neg => simp only [if_neg c0]; rw [decide_eq_false (fun e => c0 (by injection e))]; exact Ev.now _
 by_cases c1 : a1 = b1
 case neg => simp only [if_pos c0, if_neg c1]; rw [decide_eq_false (fun e => c1 (by injection e))]; exact Ev.now _
 by_cases c2 : a2 = b2
 case neg => simp only [if_pos c0, if_pos c1, if_neg c2]; rw [decide_eq_false (fun e => c2 (by injection e))]; exact Ev.now _
 by_cases c3 : a3 = b3
 case neg => simp only [if_pos c0, if_pos c1, if_pos c2, if_neg c3]; rw [decide_eq_false (fun e => c3 (by injection e))]; exact Ev.now _
 by_cases c4 : a4 = b4
 case neg => simp only [if_pos c0, if_pos c1, if_pos c2, if_pos c3, if_neg c4]; rw [decide_eq_false (fun e => c4 (by injection e))]; exact Ev.now _
 simp only [if_pos c0, if_pos c1, if_pos c2, if_pos c3, if_pos c4]
 refine Ev.bind (eqints_ev a5 b5 h.1) ?_
 by_cases c5 : a5 = b5
 case neg => simp only [decide_eq_false c5, Bool.false_eq_true, if_false]; rw [decide_eq_false (fun e => c5 (by injection e))]; exact Ev.now _
 simp only [decide_eq_true c5, if_true]
 refine Ev.bind (eqints_ev a6 b6 h.2) ?_
 subst c0 c1 c2 c3 c4 c5
 rw [show decide ((⟨a0, a1, a2, a3, a4, a5, a6⟩ : S50) = ⟨a0, a1, a2, a3, a4, a5, b6⟩) = decide (a6 = b6) from by simp]
 exact Ev.now _
theorem eqcode_l0 (xs ys : List S50) (h : xs.length = ys.length) (hl : xs.length ≤ 9223372036854775807) (hf : ∀ x ∈ xs, Fit50 x) : ∀ (d i : Nat), xs.length - i = d → i ≤ xs.length → Ev (fun k => fugueref00_EqCode.l0 k xs ys (i : Int)) (decide (xs.drop i = ys.drop i)) := by
 intro d
 induction d with
 | zero =>
  intro i hd hi
  refine Ev.step (f := fun _ => some true) (fun k => by simp only [fugueref00_EqCode.l0]; rw [if_neg (by omega)]) ?_
  rw [List.drop_eq_nil_of_le (by omega), List.drop_eq_nil_of_le (by omega)]
  exact Ev.now _
 | succ d ih =>
  intro i hd hi
  have hx : i < xs.length := by omega
  have hy : i < ys.length := by omega
  have e1 : rd_T50 xs (i : Int) = xs[i] := rd50_get xs i hx
  have e2 : rd_T50 ys (i : Int) = ys[i] := rd50_get ys i hy
  refine Ev.step (fun k => by simp only [fugueref00_EqCode.l0]; rw [if_pos (by omega), if_pos (by omega), if_pos (by omega), e1, e2, wrap_in (by omega) (by omega)]) ?_
  refine Ev.bind (eqinstr_ev xs[i] ys[i] (hf _ (List.getElem_mem hx))) ?_
  rw [List.drop_eq_getElem_cons hx, List.drop_eq_getElem_cons hy]
  by_cases he : xs[i] = ys[i]
  ·simp only [decide_eq_true he, if_true]
   rw [show decide (xs[i] :: xs.drop (i + 1) = ys[i] :: ys.drop (i + 1)) = decide (xs.drop (i + 1) = ys.drop (i + 1)) from decide_eq_decide.2 ⟨fun e => by injection e, fun e => by rw [he, e]⟩]
   exact ih (i + 1) (by omega) (by omega)
  ·simp only [decide_eq_false he, Bool.false_eq_true, if_false]
   rw [decide_eq_false (fun e => he (by injection e))]
   exact Ev.now _
theorem eqcode_ev (xs ys : List S50) (hl : xs.length ≤ 9223372036854775807) (hf : ∀ x ∈ xs, Fit50 x) : Ev (fun k => fugueref00_EqCode.f k xs ys) (decide (xs = ys)) := by
 unfold fugueref00_EqCode.f
 by_cases h : xs.length = ys.length
 ·simp only [if_pos (show (xs.length : Int) = (ys.length : Int) by omega)]
  simpa using eqcode_l0 xs ys h hl hf xs.length 0 (by omega) (by omega)
 ·simp only [if_neg (show ¬ (xs.length : Int) = (ys.length : Int) by omega)]
  rw [decide_eq_false (fun he => h (by rw [he]))]
  exact Ev.now _
def Fit46 (x : S46) : Prop := x.f3.length ≤ 9223372036854775807 ∧ ∀ y ∈ x.f3, Fit50 y
theorem eqfunc_ev (x y : S46) (h : Fit46 x) : Ev (fun k => fugueref00_EqFunc.f k x.f0 x.f1 x.f2 x.f3 y.f0 y.f1 y.f2 y.f3) (decide (x = y)) := by
 obtain ⟨a0, a1, a2, a3⟩ := x
 obtain ⟨b0, b1, b2, b3⟩ := y
 unfold fugueref00_EqFunc.f
 simp only
 by_cases c0 : a0 = b0
 case neg => simp only [if_neg c0]; rw [decide_eq_false (fun e => c0 (by injection e))]; exact Ev.now _
 by_cases c1 : a1 = b1
 case neg => simp only [if_pos c0, if_neg c1]; rw [decide_eq_false (fun e => c1 (by injection e))]; exact Ev.now _
 by_cases c2 : a2 = b2
 case neg => simp only [if_pos c0, if_pos c1, if_neg c2]; rw [decide_eq_false (fun e => c2 (by injection e))]; exact Ev.now _
 simp only [if_pos c0, if_pos c1, if_pos c2]
 refine Ev.bind (eqcode_ev a3 b3 h.1 h.2) ?_
 subst c0 c1 c2
 rw [show decide ((⟨a0, a1, a2, a3⟩ : S46) = ⟨a0, a1, a2, b3⟩) = decide (a3 = b3) from by simp]
 exact Ev.now _
theorem eqfuncs_l0 (xs ys : List S46) (h : xs.length = ys.length) (hl : xs.length ≤ 9223372036854775807) (hf : ∀ x ∈ xs, Fit46 x) : ∀ (d i : Nat), xs.length - i = d → i ≤ xs.length → Ev (fun k => fugueref00_EqFuncs.l0 k xs ys (i : Int)) (decide (xs.drop i = ys.drop i)) := by
 intro d
 induction d with
 | zero =>
  intro i hd hi
  refine Ev.step (f := fun _ => some true) (fun k => by simp only [fugueref00_EqFuncs.l0]; rw [if_neg (by omega)]) ?_
  rw [List.drop_eq_nil_of_le (by omega), List.drop_eq_nil_of_le (by omega)]
  exact Ev.now _
 | succ d ih =>
  intro i hd hi
  have hx : i < xs.length := by omega
  have hy : i < ys.length := by omega
  have e1 : rd_T46 xs (i : Int) = xs[i] := rd46_get xs i hx
  have e2 : rd_T46 ys (i : Int) = ys[i] := rd46_get ys i hy
  refine Ev.step (fun k => by simp only [fugueref00_EqFuncs.l0]; rw [if_pos (by omega), if_pos (by omega), if_pos (by omega), e1, e2, wrap_in (by omega) (by omega)]) ?_
  refine Ev.bind (eqfunc_ev xs[i] ys[i] (hf _ (List.getElem_mem hx))) ?_
  rw [List.drop_eq_getElem_cons hx, List.drop_eq_getElem_cons hy]
  by_cases he : xs[i] = ys[i]
  ·simp only [decide_eq_true he, if_true]
   rw [show decide (xs[i] :: xs.drop (i + 1) = ys[i] :: ys.drop (i + 1)) = decide (xs.drop (i + 1) = ys.drop (i + 1)) from decide_eq_decide.2 ⟨fun e => by injection e, fun e => by rw [he, e]⟩]
   exact ih (i + 1) (by omega) (by omega)
  ·simp only [decide_eq_false he, Bool.false_eq_true, if_false]
   rw [decide_eq_false (fun e => he (by injection e))]
   exact Ev.now _
theorem eqfuncs_ev (xs ys : List S46) (hl : xs.length ≤ 9223372036854775807) (hf : ∀ x ∈ xs, Fit46 x) : Ev (fun k => fugueref00_EqFuncs.f k xs ys) (decide (xs = ys)) := by
 unfold fugueref00_EqFuncs.f
 by_cases h : xs.length = ys.length
 ·simp only [if_pos (show (xs.length : Int) = (ys.length : Int) by omega)]
  simpa using eqfuncs_l0 xs ys h hl hf xs.length 0 (by omega) (by omega)
 ·simp only [if_neg (show ¬ (xs.length : Int) = (ys.length : Int) by omega)]
  rw [decide_eq_false (fun he => h (by rw [he]))]
  exact Ev.now _
theorem eqprog_ev (G : Int) (fs : List S46) (H : Int) (gs : List S46) (hl : fs.length ≤ 9223372036854775807) (hf : ∀ x ∈ fs, Fit46 x) : Ev (fun k => fugueref00_EqProgram.f k G fs H gs) (decide (G = H ∧ fs = gs)) := by
 unfold fugueref00_EqProgram.f
 by_cases c0 : G = H
 case neg => simp only [if_neg c0]; rw [decide_eq_false (fun e => c0 e.1)]; exact Ev.now _
 simp only [if_pos c0]
 refine Ev.bind (eqfuncs_ev fs gs hl hf) ?_
 rw [show decide (G = H ∧ fs = gs) = decide (fs = gs) from by rw [decide_eq_decide]; exact ⟨fun e => e.2, fun e => ⟨c0, e⟩⟩]
 exact Ev.now _
theorem instrR_fit {G : Int} {fs : List S46} {R V m : Int} {bs : List Int} {last : Bool} {nx : Nat} {locs : Int} {t : S50 × Nat × Int} (hby : Bytes bs) (h : instrR G fs R V m bs last nx locs = .ok t) : Fit50 t.1 := by
 unfold instrR at h
 split at h
 ·rename_i hl
  split at h
  ·split at h
   ·cases h
   ·rename_i s e
    injection h with h
    subst h
    have h2 := partsR_inv hby rfl rfl hl _ s e
    have h3 : (partsOf (bs.getD nx 0).toNat).length ≤ 3 := partsOf_le _
    refine ⟨?_, ?_⟩
    ·have := h2.2.2.2.1; show s.1.f5.length ≤ _; omega
    ·have := h2.2.2.2.2; show s.1.f6.length ≤ _; omega
  ·cases h
 ·cases h
theorem codes_fit {G : Int} {fs : List S46} {R V m : Int} {bs : List Int} (hby : Bytes bs) {a : Nat} {b : Int} : ∀ n s, runE (codeStep G fs R V m bs) (a, b, []) n = .ok s → s.2.2.length = n ∧ ∀ x ∈ s.2.2, Fit50 x := by
 refine runE_inv (fun (n : Nat) (s : Nat × Int × List S50) => s.2.2.length = n ∧ ∀ x ∈ s.2.2, Fit50 x) ⟨rfl, fun x hx => by cases hx⟩ ?_
 intro n s s' _ hI hs
 unfold codeStep at hs
 split at hs
 ·cases hs
 ·rename_i t e
  injection hs with hs
  subst hs
  refine ⟨by rw [List.length_append, hI.1]; rfl, fun x hx => ?_⟩
  rcases List.mem_append.1 hx with h | h
  ·exact hI.2 x h
  ·rw [List.mem_singleton.1 h]; exact instrR_fit hby e
theorem hvN_le {bs : List Int} (hby : Bytes bs) (p : Nat) : hvN bs p ≤ 65535 := by
 have h1 := byte_at hby (p + 3)
 have h2 := byte_at hby (p + 4)
 unfold hvN
 omega
theorem funcs_fit {G : Int} {fs : List S46} {bs : List Int} (hby : Bytes bs) {a : Nat} {b : Int} : ∀ n s, runE (funcStep G fs bs) (a, b, []) n = .ok s → ∀ c ∈ s.2.2, c.length ≤ 65535 ∧ ∀ x ∈ c, Fit50 x := by
 refine runE_inv (fun (n : Nat) (s : Nat × Int × List (List S50)) => ∀ c ∈ s.2.2, c.length ≤ 65535 ∧ ∀ x ∈ c, Fit50 x) (fun c hc => by cases hc) ?_
 intro n s s' _ hI hs
 unfold funcStep at hs
 split at hs
 ·cases hs
 ·rename_i t e
  injection hs with hs
  subst hs
  intro c hc
  rcases List.mem_append.1 hc with h | h
  ·exact hI c h
  ·rw [List.mem_singleton.1 h]
   have hf := codes_fit hby _ t e
   have := hvN_le hby (9 + 5 * n)
   exact ⟨by rw [hf.1]; omega, hf.2⟩
theorem dec_form {bs : List Int} {r : Int × List S46} (h : decR bs = .ok r) : ∃ l s, runE (funcStep (bs.getD 6 0) (fsOf (hsOf bs (cntOf bs).toNat)) bs) (9 + 5 * (cntOf bs).toNat, l, []) (cntOf bs).toNat = .ok s ∧ r = (bs.getD 6 0, withCode (hsOf bs (cntOf bs).toNat) s.2.2) := by
 unfold decR at h
 by_cases c1 : bs.take 6 = magicL.take bs.length
 ·by_cases c2 : 6 ≤ bs.length
  ·by_cases c3 : 7 ≤ bs.length
   ·by_cases c4 : globE (bs.getD 6 0) = 0
    ·by_cases c5 : 9 ≤ bs.length
     ·by_cases c6 : funcsE (cntOf bs) = 0
      ·rw [if_pos c1, if_pos c2, if_pos c3, if_pos c4, if_pos c5, if_pos c6] at h
       cases e1 : runE (headStep bs) 0 (cntOf bs).toNat with
       | error er => rw [e1] at h; cases h
       | ok l =>
        rw [e1] at h
        cases e2 : runE (funcStep (bs.getD 6 0) (fsOf (hsOf bs (cntOf bs).toNat)) bs) (9 + 5 * (cntOf bs).toNat, l, []) (cntOf bs).toNat with
        | error er => simp only [e2] at h; cases h
        | ok s =>
         simp only [e2] at h
         by_cases c7 : s.1 = bs.length
         ·rw [if_pos c7] at h
          injection h with h
          exact ⟨l, s, e2, h.symm⟩
         ·rw [if_neg c7] at h; cases h
      ·rw [if_pos c1, if_pos c2, if_pos c3, if_pos c4, if_pos c5, if_neg c6] at h; cases h
     ·rw [if_pos c1, if_pos c2, if_pos c3, if_pos c4, if_neg c5] at h; cases h
    ·rw [if_pos c1, if_pos c2, if_pos c3, if_neg c4] at h; cases h
   ·rw [if_pos c1, if_pos c2, if_neg c3] at h; cases h
  ·rw [if_pos c1, if_neg c2] at h; cases h
 ·rw [if_neg c1] at h; cases h
theorem dec_fit {bs : List Int} (hby : Bytes bs) : (decOut bs).2.1.length ≤ 9223372036854775807 ∧ ∀ f ∈ (decOut bs).2.1, Fit46 f := by
 unfold decOut
 cases e : decR bs with
 | error er => exact ⟨by show (0 : Nat) ≤ _; omega, fun f hf => by cases hf⟩
 | ok r =>
  obtain ⟨l, s, hs, rfl⟩ := dec_form e
  have hf := funcs_fit hby _ s hs
  have hc : (cntOf bs).toNat ≤ 65535 := by
   have h1 := byte_at hby 7
   have h2 := byte_at hby 8
   unfold cntOf
   omega
  refine ⟨?_, fun f hm => ?_⟩
  ·show (withCode (hsOf bs (cntOf bs).toNat) s.2.2).length ≤ _
   unfold withCode
   rw [List.length_zipWith, hsOf_len]
   omega
  ·have hm : f ∈ withCode (hsOf bs (cntOf bs).toNat) s.2.2 := hm
   unfold withCode at hm
   obtain ⟨i, hi, he⟩ := List.getElem_of_mem hm
   rw [List.getElem_zipWith] at he
   have hlen := hi
   rw [List.length_zipWith] at hlen
   have h2 := hf (s.2.2[i]'(by omega)) (List.getElem_mem _)
   rw [← he]
   exact ⟨by show (s.2.2[i]).length ≤ _; have := h2.1; omega, h2.2⟩
theorem rdec_f {xs : List Int} (h : Bytes xs) : fugueref01_Decode.f xs = some (decOut xs) := by
 unfold fugueref01_Decode.f
 rw [if_pos (all_bytes h)]
theorem xor_byte (a : Int) : 0 ≤ Go.bits .xor .u8 a 1 ∧ Go.bits .xor .u8 a 1 ≤ 255 := by
 unfold Go.bits
 show 0 ≤ IntKind.u8.wrap _ ∧ IntKind.u8.wrap _ ≤ 255
 rw [IntKind.wrap_u8]
 omega
theorem last_ev (xs : List Int) (hb : Bytes xs) (hl : xs.length ≤ 140737488351232) : Ev (fun k => (fugueref00_CopyBytes.f k xs).bind fun t => ((code_Decode.f xs).bind fun p => ((fugueref01_Decode.f t).bind fun q => ((fugueref00_EqProgram.f k p.1 p.2.1 q.1 q.2.1).bind fun e => (if true = true then (if e = true then (if p.2.2.1 = q.2.2.1 then (some (p.2.2.2 == q.2.2.2)) else (some false)) else (some false)) else (some false)))))) true := by
 refine Ev.bind (copy_ev xs (by omega)) ?_
 simp only [dec_f hb, rdec_f hb, Option.bind_some]
 refine Ev.bind (eqprog_ev _ _ _ _ (dec_fit hb).1 (dec_fit hb).2) ?_
 simp only [and_self, decide_true, if_true, beq_self_eq_true]
 exact Ev.now _
theorem turned_l0 : ∀ (d : Nat) (xs : List Int) (i : Nat), xs.length - i ≤ d → i ≤ 281474976710656 → Bytes xs → xs.length ≤ 140737488351232 → Ev (fun k => fuguelaw01_CodeDecodes.l0 k true xs (i : Int)) true := by
 intro d
 induction d with
 | zero =>
  intro xs i hd hi hb hl
  refine Ev.step (fun k => by
   simp only [fuguelaw01_CodeDecodes.l0]
   rw [if_neg (by omega)]) (last_ev xs hb hl)
 | succ d ih =>
  intro xs i hd hi hb hl
  by_cases h : i < xs.length
  ·have hwp : wrap64 ((i : Int) + 3) = ((i + 3 : Nat) : Int) := by rw [wrap_in (by omega) (by omega)]; omega
   refine Ev.step (f := fun k => fuguelaw01_CodeDecodes.l0 k true (xs.set i (Go.bits .xor .u8 (rd xs (i : Int)) 1)) ((i + 3 : Nat) : Int)) (fun k => by
    simp only [fuguelaw01_CodeDecodes.l0]
    rw [if_pos (by omega), if_pos (by omega), hwp, Int.toNat_natCast]) ?_
   refine ih _ (i + 3) (by rw [List.length_set]; omega) (by omega) (fun x hx => ?_) (by rw [List.length_set]; exact hl)
   rcases List.mem_or_eq_of_mem_set hx with hx | rfl
   ·exact hb x hx
   ·exact xor_byte _
  ·refine Ev.step (fun k => by
    simp only [fuguelaw01_CodeDecodes.l0]
    rw [if_neg (by omega)]) (last_ev xs hb hl)
theorem decodes_ev (bs : List Int) (hb : Bytes bs) (hl : bs.length ≤ 140737488351232) : Ev (fun k => fuguelaw01_CodeDecodes.f k bs) true := by
 unfold fuguelaw01_CodeDecodes.f
 refine Ev.bind works_ev ?_
 have hw : fugueref00_WideBytes.f bs = some bs := by unfold fugueref00_WideBytes.f; rw [if_pos hl]
 have hs : fugueref00_SpareBytes.f bs = some true := by unfold fugueref00_SpareBytes.f; rw [if_pos hl]
 simp only [hw, hs, dec_f hb, rdec_f hb, Option.bind_some]
 refine Ev.bind (eqprog_ev _ _ _ _ (dec_fit hb).1 (dec_fit hb).2) ?_
 simp only [and_self, decide_true, if_true]
 refine Ev.bind (eqbytes_ev bs bs (by omega)) ?_
 simp only [beq_self_eq_true, if_true]
 refine Ev.step (f := fun k => fuguelaw01_CodeDecodes.j1 k true bs false) (fun k => by
  simp only [fuguelaw01_CodeDecodes.j0]
  rw [if_pos trivial, if_pos trivial, bne_self_eq_false]) ?_
 refine Ev.step (f := fun k => fuguelaw01_CodeDecodes.l0 k true bs ((9 : Nat) : Int)) (fun k => by
  simp only [fuguelaw01_CodeDecodes.j1]
  rw [if_neg (by decide)]
  rfl) ?_
 exact turned_l0 bs.length bs 9 (by omega) (by omega) hb hl
theorem decodes_any {A0 : Option Addr} {c0 : Nat} {x0 : List Int} (W : World) (l0 : x0.length ≤ c0) (g0 : Kd.C (Kd.int .u8) W A0 x0.length x0) (h0 : Ok33 x0) (hT : Tab W) :
  Calls Tryd.prog 5 #[.slice A0 x0.length c0] W fun e w' => e = .returned (.bool true) ∧ Below W.heap.size W w' := by
 obtain ⟨k, hk⟩ := (decodes_ev x0 (ok33 h0).2 (ok33 h0).1).rounds
 exact fuguelaw01_CodeDecodes.calls k A0 c0 x0 true rfl W g0 l0 hk hT
end Go.Proofs.YteonppgdmhakoaaDoor.PC
namespace Go.Proofs.YteonppgdmhakoaaDoor.codeDecodes
open Go.Proofs.YteonppgdmhakoaaDoor.PC Go.ChangeShapes Go.WideShapes Go.ChangeAt Go.RowKit Go.Proofs.YteonppgdmhakoaaDoor.Open
set_option linter.unusedVariables false
theorem own : ownKnob Tryd.prog.godebug = none := by kernel_rfl
theorem laidOut : laidOutB Tryd.prog = true := by kernel_rfl
set_option maxRecDepth 100000 in
theorem contract (H : Type) (enc : TypeId × Value → H) (W : World) (base : Nat) (args : Array Value) (ds gs : List (DataW H)) (before : List MemPlace)
  (hval0 : ∀ (j : Nat) t v, Tryd.f5.params[j]? = some t → args[j]? = some v → Value.okWide Tryd.prog W .any base t v)
  (hW : DataW.Whole enc Tryd.prog Tryd.f5.params.toList Rows.codeDecodesSpec.vars false W args.toList ds gs before)
  (hsz0 : (DataW.weightsEach Tryd.prog (Tryd.f5.params.toList ++ Rows.codeDecodesSpec.plain.varTypes Tryd.prog) (ds ++ gs)).all (· ≤ reachBytes) = true)
  (hL : laidMetH Tryd.prog Rows.codeDecodesRow.laid W) :
  Calls Tryd.prog 5 args W fun e W' => ∃ v, e = .returned v ∧ Rows.codeDecodesSpec.post enc Tryd.prog Tryd.f5 false true false false W args v W' := by
 have hT : Tab W := tab_laid hL
 have hval := hval0
 have hsz := hsz0
 have hW' := hW
 obtain ⟨p, q, hA0, hV, rfl, hfz, hnd⟩ := hW
 have hA : DataW.TrodAll enc Tryd.prog W 0 (fun _ => true) true Tryd.f5.params.toList args.toList ds p := hA0
 rw [Tryd.params5] at hA hval hsz
 obtain ⟨v0, vs0, d0, ds0, p0, q0, hargs, rfl, rfl, h0, r0⟩ := trodAll_cons hA
 obtain ⟨rfl, rfl, rfl⟩ := trodAll_nil r0
 obtain rfl : args = #[v0] := by cases args; simp_all
 obtain ⟨rfl, rfl⟩ := trodVars_none hV
 have k0 := h0
 have lt0 : ∀ x ∈ p0, x.block < W.heap.size := by obtain ⟨m, hm⟩ := k0; exact DataW.trod_lt m _ _ _ hm
 have ov0 := (hval 0 33 v0 rfl rfl)
 obtain ⟨fu0, hf0⟩ := h0
 obtain ⟨x0, hK0, hok0⟩ := Rd.read (rd33) hf0 (weights_at hsz (j := 0) (t := 33) rfl rfl)
 obtain ⟨A0, c0, rfl, l0, g0⟩ := open33 ov0 hK0
 clear hA0 hval0 hsz0 hsz
 refine (decodes_any W l0 g0 hok0 hT).mono fun e W' ⟨he, bel⟩ => ?_
 subst he
 exact ⟨_, rfl, _, _, _, [], _, [], hW', trodAll_mk1 (shut_bool Tryd.underlying4 _), (trodAll_cons_mk (Below.trod laidOut (by kernel_rfl) (of_decide_eq_true (by kernel_rfl)) k0 bel lt0) trodAll_mk0), rfl, bel.frame _, fun h => by cases h⟩
theorem laid_met (os : Os) : laidMet Tryd.prog Rows.codeDecodesRow.laid ((laidWorld os).forCall (fun _ _ => 0) ⟨#[], #[.slice none 0 0], []⟩).memory :=
 laidMet_of_run' 8 (by kernel_rfl) (by kernel_rfl)
theorem reads (os : Os) {H : Type} (enc : TypeId × Value → H) : ∃ places, DataW.whole enc Tryd.prog ((laidWorld os).forCall (fun _ _ => 0) ⟨#[], #[.slice none 0 0], []⟩).memory Tryd.f5.params.toList Rows.codeDecodesSpec.vars false (#[.slice none 0 0] : Array Value).toList 8 = some ([.nil], [], places) :=
 ⟨[], by kernel_rfl⟩
set_option maxRecDepth 100000 in
theorem lifted (os : Os) (started : os.Started) (H : Type) (enc : TypeId × Value → H) (F : Stop.Interp) :
  ReturnsInHanded {} Tryd.checked os 5 .any ((OpenSpec.ofChange Rows.codeDecodesSpec).preRow enc Tryd.prog Tryd.f5 Rows.codeDecodesRow.domain false Rows.codeDecodesRow.laid) (((OpenSpec.ofChange Rows.codeDecodesSpec).at F).post enc Tryd.prog Tryd.f5 false true false false) := by
 obtain ⟨places, hx⟩ := reads os enc
 refine returnsInHanded_of_row (C := Tryd.checked) (s := (OpenSpec.ofChange Rows.codeDecodesSpec)) own started (by kernel_rfl) Tryd.func5
  (witness_row_at (enc := enc) (C := Tryd.checked) false (laidWorld os) #[.slice none 0 0] rfl (by kernel_rfl) (by kernel_rfl) (by kernel_rfl)
   (OpenSpec.preRow_of_cond 8 hx (by kernel_rfl) (fun k hk => by cases hk) (by kernel_rfl) (laid_met os))) ?_
 intro W base args ds gs before hval hW _ _ hsz hL _ _
 exact contract H enc W base args ds gs before hval hW hsz hL
theorem said : Rows.CodeDecodesSaid :=
 OpenClaim.holds_of_cond 5 Tryd.f5 rfl rfl rfl rfl rfl rfl rfl ⟨rfl, rfl, rfl, rfl, rfl⟩ rfl rfl rfl rfl rfl (by kernel_rfl) Tryd.func5 (by kernel_rfl)
  (of_decide_eq_true (by kernel_rfl)) (by unfold Func.isWrapper; first | (rw [if_pos (by decide +kernel)]; kernel_rfl) | (rw [if_neg (by decide +kernel)]; exact ⟨rfl, rfl⟩))
  (fun os started H enc _ F => by rw [OpenClaim.pre_eq_preRow]; exact lifted os started H enc F)
theorem plain (f : FuncId) (fn : Func) (hf : Tryd.pinned.checked.prog.funcNamed "fugue/fuguelaw01.CodeDecodes" = some f) (hfn : Tryd.pinned.checked.prog.funcs[f]? = some fn) :
  true = Tryd.pinned.checked.prog.looks [] ∧ ∀ (j : Nat) t, fn.params[j]? = some t → Tryd.pinned.checked.prog.wantsStandIn t = false := by
 obtain rfl : f = 5 := Option.some.inj ((show Tryd.prog.funcNamed "fugue/fuguelaw01.CodeDecodes" = some 5 by kernel_rfl).symm.trans hf) |>.symm
 obtain rfl : fn = Tryd.f5 := (Option.some.inj (Tryd.func5.symm.trans hfn)).symm
 refine ⟨by kernel_rfl, fun j t ht => ?_⟩
 rw [Tryd.params5] at ht
 have hm := Array.mem_of_getElem? ht
 simp only [List.mem_toArray, List.mem_cons, List.not_mem_nil, or_false] at hm
 rcases hm with rfl
 ·exact (show Tryd.prog.wantsStandIn 33 = false by kernel_rfl)
theorem card : Rows.CodeDecodesCardSaid :=
 Claim7.holds_tied_plain_at .later [] _ _ _ _ said (fun _ h => by cases h) (by kernel_rfl) (fun _ h => by cases h) codeDecodes_row_tie rfl ⟨rfl, rfl⟩ (by kernel_rfl) rfl plain (by kernel_rfl)
#print axioms card
end Go.Proofs.YteonppgdmhakoaaDoor.codeDecodes
namespace Go.Proofs.YteonppgdmhakoaaDoor
theorem codeDecodes_holds : Rows.CodeDecodesCardSaid := codeDecodes.card
end Go.Proofs.YteonppgdmhakoaaDoor
