/- SumsRounds: the walk and the law over plain lists, joined. No conditions. -/
import Derived.Test.YtgemcomcjojjbaaHRoundS
import Derived.Test.YtgemcomcjojjbaaHRoundL
import Derived.Test.YtgemcomcjojjbaaHArgsS
namespace Go.Proofs.Ytgemcomcjojjbaa.PS
open Go.RowKit Go.Proofs.YtgemcomcjojjbaaW.PrintWords Go.Proofs.Ytgemcomcjojjbaa.Open
set_option linter.unusedVariables false
def Ok48 (xs : List S24) : Prop := xs.length * Try.prog.bytesOf 24 ≤ 140737488351232 ∧ ∀ a ∈ xs, Ok24 a
theorem rd48 : Rd Try.prog 48 (Kd.slice 24 k24) Ok48 := rd_slice (d := k24) Try.underlying48 (by kernel_rfl) rd24
theorem bytes24 : Try.prog.bytesOf 24 = 88 := by kernel_rfl
theorem bytes3_ : Try.prog.bytesOf 3 = 8 := by kernel_rfl
theorem open_threes {r : Reach} {W : World} {b : Nat} {v : Value} {xs : List S24} (ov : Value.okWide Try.prog W r b 48 v) (h : (Kd.slice 24 k24).K W xs v.cells.toList) : ∃ A c, v = .slice A xs.length c ∧ xs.length ≤ c ∧ Kd.C k24 W A xs.length xs := by
  obtain ⟨a, l, c, rfl⟩ := Go.WideShapes.okWide_slice Try.underlying48 ov
  obtain ⟨A, c', h1, h2, h3⟩ := h
  cases h1
  exact ⟨_, _, rfl, h2, h3⟩
theorem threes_bounds {xs : List S24} (h : Ok48 xs) : xs.length ≤ 1600000000000 ∧ ∀ x ∈ xs, x.f2.length ≤ 9223372036854775807 ∧ x.f3.length ≤ 9223372036854775807 := by
  have h1 := h.1
  rw [bytes24] at h1
  refine ⟨by omega, fun x hx => ?_⟩
  obtain ⟨_, _, h2, h3, _⟩ := h.2 x hx
  have e2 := h2.1
  have e3 := h3.1
  rw [bytes3_] at e2 e3
  omega
theorem rounds_walk {A : Option Addr} {c : Nat} {l0 : List S24} {a1 a2 : Int} (hok : Ok48 l0) (w2 : (Lit.int .u8 a2).wf = true) (W : World) (hl : l0.length ≤ c) (hr : Kd.C k24 W A l0.length l0) :
    Calls Try.prog 6 #[.slice A l0.length c, .int .i64 a1, .int .u8 a2] W fun e w' => e = .returned (.bool true) ∧ Below W.heap.size W w' := by
  obtain ⟨h1, h2⟩ := threes_bounds hok
  have h3 : 0 ≤ a2 ∧ a2 ≤ 255 := by
    have h : IntKind.u8.min ≤ a2 ∧ a2 ≤ IntKind.u8.max := by simpa [Lit.wf] using w2
    have e1 : IntKind.u8.min = 0 := by decide
    have e2 : IntKind.u8.max = 255 := by decide
    omega
  obtain ⟨k, hk⟩ := rounds_pure l0 h1 (fun x hx => (h2 x hx).1) a1 a2 h3.1 h3.2
  exact fuguelaw09_SumsRounds.calls k A c l0 a1 a2 true W hr hl hk
end Go.Proofs.Ytgemcomcjojjbaa.PS
