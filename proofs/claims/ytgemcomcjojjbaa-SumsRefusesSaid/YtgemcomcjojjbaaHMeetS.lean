/- Meet of package sums, with Clone of package slices. No conditions. -/
import Derived.Test.YtgemcomcjojjbaaHBoth
import Derived.Great.Walk
namespace Go.Proofs.Ytgemcomcjojjbaa.PS
open Go.RowKit Go.Proofs.YtgemcomcjojjbaaW.PrintWords Go.Proofs.YtgemcomcjojjbaaW.PrintLast Go.Proofs.YtgemcomcjojjbaaW.PrintMore
set_option linter.unusedVariables false
set_option linter.unusedSimpArgs false

theorem see28 (x y : Int) (v : Value) (xs : List Int) (g b : Nat) (w : World) (h : w.heap[g]? = some (.cells #[v] 22 (0, 0))) (ho : kI.R 3 w b (fun _ => True) v xs) (hb : b ≤ w.heap.size) (hl : (xs.length + 1) * 8 ≤ 140737488355328) : Calls Try.prog 28 #[.int .i64 x, .int .i64 y, .pointer (some ⟨g, 0, none⟩)] w fun e w' => e = .returned (.tuple #[]) ∧ ∃ v' w1, kI.R 3 w1 b (fun _ => True) v' (xs ++ [min x y]) ∧ Below b w w1 ∧ w1.heap[g]? = some (.cells #[v] 22 (0, 0)) ∧ w' = w1.setCell ⟨g, 0, none⟩ v' := by
  have hc : w.cell? ⟨g, 0, none⟩ = some v := (blk_cell h 0).trans rfl
  have hf := blk_frozen h 0
  have H := Aside0.mk h
  have HO := Aside0.mk ho
  have HB := Aside0.mk hb
  have HL := Aside0.mk hl
  clear h ho hb hl
  go_enter Try.func28, Try.ntmps28
  have HBw := Aside0.mk (Below.refl b w)
  go_wp2_with ((with_reducible refine gate_builtin (b := .append) (xs := #[.tmp 5, .tmp 9]) rfl ?_); at_builtin; refine Kd.R_append (Kd.int .i64) (w0 := w) b rfl (.tmp 5) (.tmp 9) 22 3 (.int .i64 0) 8 rfl Try.underlying22 info3 rfl (by decide) (by omega) v xs (min x y) [.int .i64 (min x y)] (fun _ => True) (fun _ => False) rfl rfl ?aP (fun _ hk => hk.elim) ?aF ?aO ?aB ?aS ?aL ?_; (case aP => exact rfl); (case aB => exact HBw.out); (case aF => exact (fun _ _ => trivial)); (case aO => exact HO.out); (case aS => exact HB.out); (case aL => exact HL.out); intro v1 w1 ho hb hg hat; obtain ⟨A1_, c1_, rfl⟩ := Kd.R_slice ho; have HO1 := Aside0.mk ho; have HB1 := Aside0.mk hb; have H1 := Aside0.mk (blk_grown H.out hg (Kd.R_ne HO.out H.out (by decide))); have hc1 : w1.cell? ⟨g, 0, none⟩ = some v := (blk_cell H1.out 0).trans rfl; have hf1 := blk_frozen H1.out 0; clear ho hb hg hat)
  go_end0
  exact ⟨rfl, _, w1, HO1.out, HB1.out, H1.out, by first | rfl | trivial | (simp [List.length_append])⟩
/-- What stands in the cell that the function captures: the lesser numbers so far. -/
def minP (p : Int × Int) : Int := min p.1 p.2
def InvM (Wz : World) (g : Nat) (w3 : World) (don : List (Int × Int)) (w' : World) : Prop := (∃ v, w'.heap[g]? = some (.cells #[v] 22 (0, 0)) ∧ kI.R 3 w' w3.heap.size (fun _ => True) v (don.map minP)) ∧ KeepBut w3 w' g none ∧ Below Wz.heap.size Wz w'
theorem keep_below {w w' w1 : World} {g : Nat} (h : KeepBut w w' g none) (hb : Below w.heap.size w' w1) : KeepBut w w1 g none :=
  ⟨Nat.le_trans h.1 hb.size, fun i hi hne hr => (hb.block i hi).trans (h.2 i hi hne hr)⟩
theorem invM_next {Wz w3 w' : World} {g : Nat} {don : List (Int × Int)} {x y : Int} (hz : Wz.heap.size ≤ g) (hz3 : Wz.heap.size ≤ w3.heap.size) (hg : g < w3.heap.size) (h : InvM Wz g w3 don w') (hl : (don.length + 1) * 8 ≤ 140737488355328) : Calls Try.prog 28 #[.int .i64 x, .int .i64 y, .pointer (some ⟨g, 0, none⟩)] w' fun e w'' => e = .returned (.tuple #[]) ∧ InvM Wz g w3 (don ++ [(x, y)]) w'' := by
  obtain ⟨⟨v, hc, ho⟩, hk, hB⟩ := h
  refine (see28 x y v _ g w3.heap.size w' hc ho hk.1 (by rw [List.length_map]; exact hl)).mono ?_
  rintro e w'' ⟨rfl, v1, w1, ho1, hb1, hc1, rfl⟩
  refine ⟨rfl, ⟨v1, (blk_set hc1 0 _).trans rfl, ?_⟩, (keep_below hk hb1).set_ 0 _, below_set (hB.trans (hb1.mono hz3)) hz⟩
  rw [List.map_append]
  exact Kd.R_set ho1 hc1 (by decide) 0 _
theorem clone_any (xs : List Int) (A : Option Addr) (c : Nat) (W : World) (hr : kI.C W A xs.length xs) (hc : xs.length ≤ c) (hl : xs.length * 8 ≤ 140737488355328) : Calls Try.prog 29 #[.slice A xs.length c] W fun e w' => ∃ v, e = .returned v ∧ kI.R 3 w' W.heap.size (fun k => W.heap.size ≤ k) v xs ∧ Below W.heap.size W w' := by
  have HR := Aside0.mk hr
  have HL := Aside0.mk hl
  rcases A with _ | ad
  · have h0 : xs.length = 0 := by
      rcases Nat.eq_zero_or_pos xs.length with h | h
      · exact h
      · obtain ⟨ad, h, _⟩ := hr.2.2 h
        cases h
    obtain rfl : xs = [] := List.eq_nil_of_length_eq_zero h0
    clear hr hc hl
    have he : ∀ w : World, (binOp .eql 22 (.slice none 0 c) (.slice none 0 0)).run Try.prog w = .ok (.bool true) w := fun _ => rfl
    go_enter Try.func29, Try.ntmps29
    go_wp2_with fail
    go_ret
    exact ⟨_, rfl, Kd.R_nil _ _ _ _ _, Below.refl _ _⟩
  · clear hr hc hl
    have he : ∀ w : World, (binOp .eql 22 (.slice (some ad) xs.length c) (.slice none 0 0)).run Try.prog w = .ok (.bool false) w := fun _ => rfl
    go_enter Try.func29, Try.ntmps29
    have HO0 : Aside0 (kI.R 3 (W.alloc (.cells #[] 3)) W.heap.size (fun k => W.heap.size ≤ k) (.slice (some ⟨W.heap.size, 0, none⟩) 0 0) []) := ⟨Kd.R_of_own (xs := []) (by have := World.ownsRow_lit (base := W.heap.size) (e := 3) (size := 1) W #[] 0 (Nat.le_refl _) (by simp [maxLen]) (by simp); simpa [encs] using this) (fun k hk => by simp [Value.ownBlock] at hk; omega)⟩
    have HBa := Aside0.mk (below_alloc (Below.refl W.heap.size W) (.cells #[] 3))
    go_wp2_with ((with_reducible refine gate_builtin (b := .append) (xs := #[.tmp 5, .tmp 6]) rfl ?_); at_builtin; refine Kd.R_append_row (Value.int .i64) 0 (h1 := fun _ => rfl) (w0 := W) W.heap.size rfl (.tmp 5) (.tmp 6) 22 3 (.int .i64 0) 8 rfl Try.underlying22 info3 rfl (by decide) (.slice (some ⟨W.heap.size, 0, none⟩) 0 0) [] xs (some ad) xs.length c (fun k => W.heap.size ≤ k) rfl rfl ?aF ?aO ?aR ?aB ?aS ?aL ?_; (case aF => exact fun k hk => Nat.le_trans HBa.out.size hk); (case aO => exact HO0.out); (case aR => exact Kd.C_below HR.out HBa.out); (case aB => exact HBa.out); (case aS => exact HBa.out.size); (case aL => simp only [List.length_nil, Nat.zero_add]; exact HL.out); intro v1 w1 ho hb hg hat; have HO1 := Aside0.mk ho; have HB1 := Aside0.mk hb; clear ho hb hg hat)
    go_ret
    exact ⟨_, rfl, HO1.out, HB1.out⟩
end Go.Proofs.Ytgemcomcjojjbaa.PS
