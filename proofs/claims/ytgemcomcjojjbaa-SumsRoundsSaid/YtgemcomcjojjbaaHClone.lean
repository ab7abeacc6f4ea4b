/- Clone of package slices at lists of numbers. No conditions. -/
import Derived.Test.YtgemcomcjojjbaaHEnc
import Derived.Great.Walk
namespace Go.Proofs.Ytgemcomcjojjbaa.PS
open Go.RowKit Go.Proofs.YtgemcomcjojjbaaW.PrintWords Go.Proofs.YtgemcomcjojjbaaW.PrintLast Go.Proofs.YtgemcomcjojjbaaW.PrintMore
set_option linter.unusedVariables false
set_option linter.unusedSimpArgs false

theorem keep_below {w w' w1 : World} {g : Nat} (h : KeepBut w w' g none) (hb : Below w.heap.size w' w1) : KeepBut w w1 g none :=
  ⟨Nat.le_trans h.1 hb.size, fun i hi hne hr => (hb.block i hi).trans (h.2 i hi hne hr)⟩
theorem clone_any (xs : List Int) (A : Option Addr) (c : Nat) (W : World) (hr : kI.C W A xs.length xs) (hc : xs.length ≤ c) (hl : xs.length * 8 ≤ 140737488355328) : Calls Try.prog 29 #[.slice A xs.length c] W fun e w' => ∃ v, e = .returned v ∧ kI.R 3 w' W.heap.size (fun k => W.heap.size ≤ k) v xs ∧ Below W.heap.size W w' := by
  have HR := Aside0.mk hr
  have HL := Aside0.mk hl
  rcases A with _ | ad
  · have h0 : xs.length = 0 := by
      rcases Nat.eq_zero_or_pos xs.length with h | h
      · exact h
      · obtain ⟨ad, h, _⟩ := hr.2.2 h
        cases h
    obtain rfl : xs = [] := List.eq_nil_of_length_eq_zero h0
    clear hr hc hl
    have he : ∀ w : World, (binOp .eql 22 (.slice none 0 c) (.slice none 0 0)).run Try.prog w = .ok (.bool true) w := fun _ => rfl
    go_enter Try.func29, Try.ntmps29
    go_wp2_with fail
    go_ret
    exact ⟨_, rfl, Kd.R_nil _ _ _ _ _, Below.refl _ _⟩
  · clear hr hc hl
    have he : ∀ w : World, (binOp .eql 22 (.slice (some ad) xs.length c) (.slice none 0 0)).run Try.prog w = .ok (.bool false) w := fun _ => rfl
    go_enter Try.func29, Try.ntmps29
    have HO0 : Aside0 (kI.R 3 (W.alloc (.cells #[] 3)) W.heap.size (fun k => W.heap.size ≤ k) (.slice (some ⟨W.heap.size, 0, none⟩) 0 0) []) := ⟨Kd.R_of_own (xs := []) (by have := World.ownsRow_lit (base := W.heap.size) (e := 3) (size := 1) W #[] 0 (Nat.le_refl _) (by simp [maxLen]) (by simp); simpa [encs] using this) (fun k hk => by simp [Value.ownBlock] at hk; omega)⟩
    have HBa := Aside0.mk (below_alloc (Below.refl W.heap.size W) (.cells #[] 3))
    go_wp2_with ((with_reducible refine gate_builtin (b := .append) (xs := #[.tmp 5, .tmp 6]) rfl ?_); at_builtin; refine Kd.R_append_row (Value.int .i64) 0 (h1 := fun _ => rfl) (w0 := W) W.heap.size rfl (.tmp 5) (.tmp 6) 22 3 (.int .i64 0) 8 rfl Try.underlying22 info3 rfl (by decide) (.slice (some ⟨W.heap.size, 0, none⟩) 0 0) [] xs (some ad) xs.length c (fun k => W.heap.size ≤ k) rfl rfl ?aF ?aO ?aR ?aB ?aS ?aL ?_; (case aF => exact fun k hk => Nat.le_trans HBa.out.size hk); (case aO => exact HO0.out); (case aR => exact Kd.C_below HR.out HBa.out); (case aB => exact HBa.out); (case aS => exact HBa.out.size); (case aL => simp only [List.length_nil, Nat.zero_add]; exact HL.out); intro v1 w1 ho hb hg hat; have HO1 := Aside0.mk ho; have HB1 := Aside0.mk hb; clear ho hb hg hat)
    go_ret
    exact ⟨_, rfl, HO1.out, HB1.out⟩
end Go.Proofs.Ytgemcomcjojjbaa.PS
