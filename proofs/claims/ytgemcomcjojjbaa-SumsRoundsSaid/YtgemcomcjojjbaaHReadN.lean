/- The reader of package sums: numbers. No conditions. -/
import Derived.Test.YtgemcomcjojjbaaHRead
namespace Go.Proofs.Ytgemcomcjojjbaa.PS
open Go.RowKit Go.Proofs.YtgemcomcjojjbaaW.PrintWords Go.Proofs.YtgemcomcjojjbaaW.PrintLast Go.Proofs.YtgemcomcjojjbaaW.PrintMore
set_option linter.unusedVariables false
set_option linter.unusedSimpArgs false

theorem rdn_more (g : Nat) (n : Nat) (xs : List Int) (A : Option Addr) (c : Nat) (w : World) (hb : w.heap[g]? = some (.cells #[.slice A xs.length c] 77 (0, 0))) (hn : xs.length < n) (hm : n ≤ 1000) : Calls Try.prog 42 #[.pointer (some ⟨g, 0, none⟩), .int .i64 (n : Int)] w fun e w' => e = .panicked [{ v := wrongV, recovered := false }] ∧ Below w.heap.size w w' := by
  have HTk : Aside0 (∀ w', Below w.heap.size w w' → Calls Try.prog 46 #[.pointer (some ⟨g, 0, none⟩), .int .i64 (n : Int)] w' fun e w'' => e = .panicked [{ v := wrongV, recovered := false }] ∧ w' = w'') := ⟨fun w' hB => take_more g n xs A c w' (blk_below hb hB) hn (by omega)⟩
  have HB0 := Aside0.mk (Below.refl w.heap.size w)
  have HM := Aside0.mk hm
  clear hb hn
  go_enter Try.func42, Try.ntmps42
  go_wp2_with ((with_reducible refine gate_dst (N := 9) rfl ?_); refine Kd.R_make (Kd.int .i64) (w0 := w) w.heap.size 3 ?hg (N := 9) ?hd 22 (.tmp 8) (.tmp 8) ?ho (n : Int) ?hx ?hy Try.underlying22 (.int .i64 0) 8 info3 rfl (by decide) (by omega) 0 (ok := fun k => w.heap.size ≤ k) (okp := fun _ => False) ?hz (fun _ hk => hk.elim) ?hf ?h0 ?hl ?hB ?hs ?_; (case hg => rfl); (case hd => rfl); (case ho => rfl); (case hx => rfl); (case hy => rfl); (case hz => exact rfl); (case hf => exact Nat.le_refl _); (case h0 => exact Int.natCast_nonneg n); (case hl => rw [Int.toNat_natCast]; have := HM.out; omega); (case hB => exact HB0.out); (case hs => exact Nat.le_refl _); intro v1 w1 ho hb hgr hat; obtain ⟨A1_, c1_, rfl⟩ := Kd.R_slice ho; have HB1 := Aside0.mk hb; clear ho hb hgr hat)
  refine (HTk.out _ HB1.out).mono ?_
  rintro e w' ⟨rfl, rfl⟩
  go_wp2_with fail
  exact ⟨rfl, rfl, HB1.out⟩
theorem keep_below' {w w' w1 : World} {g : Nat} (h : KeepBut w w' g none) (hb : Below w.heap.size w' w1) : KeepBut w w1 g none :=
  ⟨Nat.le_trans h.1 hb.size, fun i hi hne hr => (hb.block i hi).trans (h.2 i hi hne hr)⟩
theorem set_take (L : List Int) (q : Nat) (z : Int) (h : q < L.length) : (L.set q z).take (q + 1) = L.take q ++ [z] := by
  rw [List.take_succ_eq_append_getElem (by rw [List.length_set]; exact h), List.getElem_set_self, List.take_set_of_le (Nat.le_refl _)]
set_option maxHeartbeats 8000000 in
set_option maxRecDepth 100000 in
theorem rdn_some (g : Nat) (n : Nat) (xs : List Int) (A : Option Addr) (c : Nat) (Wz w : World) (hWz : Below Wz.heap.size Wz w) (hg : Wz.heap.size ≤ g) (hb : w.heap[g]? = some (.cells #[.slice A xs.length c] 77 (0, 0))) (hx : kB.C Wz A xs.length xs) (hc : xs.length ≤ c) (hn : n ≤ xs.length) (h0 : 0 < n) (hm : n ≤ 1000) (hr : ∀ x ∈ xs, 0 ≤ x ∧ x ≤ 255) : Calls Try.prog 42 #[.pointer (some ⟨g, 0, none⟩), .int .i64 (n : Int)] w fun e w' =>
    ((xs.take n).all isN = false → e = .panicked [{ v := wrongV, recovered := false }]) ∧
    ((xs.take n).all isN = true → ∃ v A' c', e = .returned v ∧ kI.R 3 w' w.heap.size (fun k => w.heap.size ≤ k) v (xs.take n) ∧ w'.heap[g]? = some (.cells #[.slice A' (xs.drop n).length c'] 77 (0, 0)) ∧ kB.C Wz A' (xs.drop n).length (xs.drop n) ∧ (xs.drop n).length ≤ c') ∧ Below Wz.heap.size Wz w' ∧ KeepBut w w' g none := by
  have hglt := blk_lt hb
  have HTk : Aside0 (∀ w', Below w.heap.size w w' → Calls Try.prog 46 #[.pointer (some ⟨g, 0, none⟩), .int .i64 (n : Int)] w' fun e w'' => ∃ A' c', e = .returned (.slice A n c) ∧ w'' = w'.setCell ⟨g, 0, none⟩ (.slice A' (xs.drop n).length c') ∧ kB.C Wz A n (xs.take n) ∧ kB.C Wz A' (xs.drop n).length (xs.drop n) ∧ (xs.drop n).length ≤ c') := ⟨fun w' hB => take_some g n xs A c Wz w' (blk_below hb hB) hx hc hn⟩
  have HB0 := Aside0.mk (Below.refl w.heap.size w)
  have HM := Aside0.mk hm
  have HWz := Aside0.mk hWz
  have Hg := Aside0.mk hg
  have HGl := Aside0.mk hglt
  have HBk := Aside0.mk hb
  obtain ⟨ys, hys⟩ : ∃ ys, ys = xs.take n := ⟨_, rfl⟩
  obtain ⟨D, hD⟩ : ∃ D, D = xs.drop n := ⟨_, rfl⟩
  have hyl : ys.length = n := by rw [hys, List.length_take]; omega
  have HYr : Aside0 (∀ x ∈ ys, 0 ≤ x ∧ x ≤ 255) := ⟨fun x hx => hr x (by rw [hys] at hx; exact List.mem_of_mem_take hx)⟩
  rw [← hys, ← hD] at HTk ⊢
  clear hb hx hc hn hr hys hD hWz hg hglt
  go_enter Try.func42, Try.ntmps42
  go_wp2_with ((with_reducible refine gate_dst (N := 9) rfl ?_); refine Kd.R_make (Kd.int .i64) (w0 := w) w.heap.size 3 ?hg (N := 9) ?hd 22 (.tmp 8) (.tmp 8) ?ho (n : Int) ?hx ?hy Try.underlying22 (.int .i64 0) 8 info3 rfl (by decide) (by omega) 0 (ok := fun k => w.heap.size ≤ k) (okp := fun _ => False) ?hz (fun _ hk => hk.elim) ?hf ?h0 ?hl ?hB ?hs ?_; (case hg => rfl); (case hd => rfl); (case ho => rfl); (case hx => rfl); (case hy => rfl); (case hz => exact rfl); (case hf => exact Nat.le_refl _); (case h0 => exact Int.natCast_nonneg n); (case hl => rw [Int.toNat_natCast]; have := HM.out; omega); (case hB => exact HB0.out); (case hs => exact Nat.le_refl _); intro v1 w1 ho hb hgr hat; obtain ⟨L, hL⟩ : ∃ L, L = List.replicate (n : Int).toNat (0 : Int) := ⟨_, rfl⟩; rw [← hL] at ho; have hLl : L.length = n := (by rw [hL, List.length_replicate, Int.toNat_natCast]); clear hL; obtain ⟨gl, cl, rfl, _⟩ := Kd.R_form ho (by rw [hLl]; exact h0); have HO := Aside0.mk ho; have HB1 := Aside0.mk hb; clear ho hb hgr hat)
  refine (HTk.out _ HB1.out).mono ?_
  rintro e w2 ⟨A', c', rfl, rfl, hy, hd, hdc⟩
  have HY := Aside0.mk hy
  have HD := Aside0.mk hd
  have HDc := Aside0.mk hdc
  have HR1 := Aside0.mk (Kd.R_set HO.out (blk_below HBk.out HB1.out) (by decide) 0 (.slice A' D.length c'))
  have HK1 : Aside0 ((w1.setCell ⟨g, 0, none⟩ (.slice A' D.length c')).heap[g]? = some (.cells #[.slice A' D.length c'] 77 (0, 0))) := ⟨(blk_set (blk_below HBk.out HB1.out) 0 _).trans rfl⟩
  have HZ1 : Aside0 (Below Wz.heap.size Wz (w1.setCell ⟨g, 0, none⟩ (.slice A' D.length c'))) := ⟨below_set (HWz.out.trans (HB1.out.mono HWz.out.size)) Hg.out⟩
  have HP1 : Aside0 (KeepBut w (w1.setCell ⟨g, 0, none⟩ (.slice A' D.length c')) g none) := ⟨(KeepBut.of_below HB1.out g none).set_ 0 _⟩
  obtain ⟨w3, hw⟩ : ∃ w3, w3 = w1.setCell ⟨g, 0, none⟩ (.slice A' D.length c') := ⟨_, rfl⟩
  rw [← hw] at HR1 HK1 HZ1 HP1 ⊢
  clear hw hy hd hdc HTk HO HB0
  go_wp2_with fail
  have hgg : gl ≠ g := fun e => by have h1 := HGl.out; have h2 := Kd.R_base HR1.out gl rfl; omega
  have HGG := Aside0.mk hgg
  clear hgg
  go_loopw [14] (fun v14 w' => ∃ (q : Nat) (M : List Int), q ≤ n ∧ v14 = .int .i64 (q : Int) ∧ Aside0 (M.length = n ∧ M.take q = ys.take q) ∧ Aside0 (kI.R 3 w' w.heap.size (fun k => w.heap.size ≤ k) (.slice (some ⟨gl, 0, none⟩) n cl) M) ∧ Aside0 (w'.heap[g]? = some (.cells #[.slice A' D.length c'] 77 (0, 0))) ∧ Aside0 (Below Wz.heap.size Wz w') ∧ Aside0 (KeepBut w w' g none)) (fun i _ => n - (intOf i).toNat)
  case atStart => exact ⟨0, L, Nat.zero_le _, rfl, ⟨hLl, rfl⟩, ⟨by have h := HR1.out; rw [hLl] at h; exact h⟩, HK1, HZ1, HP1⟩
  case round =>
    obtain ⟨q, M, hq, rfl, HMl, HRq, HKq, HZq, HPq⟩ := hrel
    clear HR1 HK1 HZ1 HP1
    by_cases hlt : q < n
    · have q0 : (0 : Int) ≤ q := by omega
      have q1 : (q : Int) < n := by omega
      have q2 : (q : Int) < ys.length := by rw [hyl]; exact q1
      have hwp : wrap64 ((q : Int) + 1) = (q : Int) + 1 := wrap_in (by omega) (by omega)
      obtain ⟨ad, e0, hx⟩ := Kd.at_int (Kd.C_below HY.out HZq.out) (q : Int) q0 q1
      cases e0
      simp only [Int.toNat_natCast] at hx
      have hqy : q < ys.length := by rw [hyl]; exact hlt
      have hrg := HYr.out ys[q] (List.getElem_mem hqy)
      have HTk2 : Aside0 (ys.take (q + 1) = ys.take q ++ [ys[q]]) := ⟨List.take_succ_eq_append_getElem hqy⟩
      rw [rd_get ys q hqy] at hx
      obtain ⟨y, hy⟩ : ∃ y, y = ys[q] := ⟨_, rfl⟩
      rw [← hy] at hx hrg HTk2
      clear hy
      have HWy : Aside0 (wrap64 y = y) := ⟨wrap_in (by omega) (by omega)⟩
      have hwy := HWy.out
      have hcc := Kd.R_celln 0 HRq.out (q : Int) q0 q1
      rw [Int.toNat_natCast] at hcc
      have hcz := hcc.1
      have hfz := hcc.2
      clear hcc hrg
      go_wp2_with fail
      have hput := Kd.R_putn HRq.out (q : Int) y
      rw [Int.toNat_natCast] at hput
      have hbl := Kd.R_base HRq.out gl rfl
      have HRn := Aside0.mk hput
      have HKn : Aside0 (_ = some (Obj.cells #[Value.slice A' D.length c'] 77 (0, 0))) := ⟨blk_far HKq.out (p := ⟨gl, q, none⟩) (fun e => HGG.out e.symm) (.int .i64 y)⟩
      have HZn := Aside0.mk (below_set (j := q) (v := .int .i64 y) HZq.out (Nat.le_trans HWz.out.size hbl))
      have HPn : Aside0 (KeepBut w _ g none) := ⟨keep_below' HPq.out ((Below.refl w.heap.size _).setCell (p := ⟨gl, q, none⟩) hbl (.int .i64 y))⟩
      clear hput hbl hcz hfz hx
      go_roundw
      case rel => exact ⟨q + 1, M.set q y, by omega, by go_num, ⟨by rw [List.length_set]; exact HMl.out.1, by rw [set_take M q y (by rw [HMl.out.1]; exact hlt), HMl.out.2, HTk2.out]⟩, HRn, HKn, HZn, HPn⟩
      case measure => simp [intOf]; omega
    · obtain rfl : n = q := by omega
      have hMy : M = ys := by have h := HMl.out.2; rw [List.take_of_length_le (by rw [HMl.out.1]; exact Nat.le_refl _), List.take_of_length_le (by rw [hyl]; exact Nat.le_refl _)] at h; exact h
      subst hMy
      have hrd := Kd.R_reads' HRq.out
      have HNm : Aside0 (Calls Try.prog 37 #[.slice (some ⟨gl, 0, none⟩) n cl] wr fun e w' => e = .returned (.bool (M.all isN)) ∧ wr = w') := ⟨by have h := numbers_any M (some ⟨gl, 0, none⟩) cl wr hrd.2.2 (by rw [← hrd.1]; exact hrd.2.1); rw [hyl] at h; exact h⟩
      have HMt := Aside0.mk must_true
      have HMf := Aside0.mk must_false
      clear hrd hlt hq
      go_wp2_with fail
      refine HNm.out.mono ?_
      rintro e w' ⟨rfl, rfl⟩
      cases hA : M.all isN with
      | true =>
        go_wp2_with fail
        refine (HMt.out _).mono ?_
        rintro e w' ⟨rfl, rfl⟩
        go_wp2_with fail
        go_ret
        exact ⟨fun h => (by rw [hA] at h; cases h), fun _ => ⟨_, A', c', rfl, HRq.out, HKq.out, HD.out, HDc.out⟩, HZq.out, HPq.out⟩
      | false =>
        go_wp2_with fail
        refine (HMf.out _).mono ?_
        rintro e w' ⟨rfl, rfl⟩
        go_wp2_with fail
        exact ⟨rfl, fun _ => rfl, fun h => (by rw [hA] at h; cases h), HZq.out, HPq.out⟩
end Go.Proofs.Ytgemcomcjojjbaa.PS
