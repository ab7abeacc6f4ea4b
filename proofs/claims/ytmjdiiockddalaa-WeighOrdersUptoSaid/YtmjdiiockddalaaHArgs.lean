/- How the laws' arguments read: edges, lists of edges, graphs, lists of numbers. -/
import Derived.Test.YtmjdiiockddalaaPWx0
import Derived.Test.YtmjdiiockddalaaOpen
import Derived.WideShapes
namespace Go.Proofs.Ytmjdiiockddalaa.PW
open Go.RowKit Go.Proofs.YtmjdiiockddalaaW.PrintWords Go.Proofs.Ytmjdiiockddalaa.Open
instance : Inhabited S41 := ⟨z41⟩
instance : Inhabited S31 := ⟨z31⟩
theorem rd3 : Rd Try.prog 3 (Kd.int .i64) (fun a => (Lit.int .i64 a).wf = true) := rd_int Try.underlying3 (by kernel_rfl)
def Ok29 (xs : List Int) : Prop := xs.length * Try.prog.bytesOf 3 ≤ 140737488351232 ∧ ∀ a ∈ xs, (Lit.int .i64 a).wf = true
def Ok41 (x : S41) : Prop := (Lit.int .i64 x.f0).wf = true ∧ (Lit.int .i64 x.f1).wf = true ∧ (Lit.int .i64 x.f2).wf = true
def Ok28 (xs : List S41) : Prop := xs.length * Try.prog.bytesOf 41 ≤ 140737488351232 ∧ ∀ a ∈ xs, Ok41 a
def Ok31 (x : S31) : Prop := (Lit.int .i64 x.f0).wf = true ∧ Ok28 x.f1 ∧ Ok29 x.f2
theorem rd29 : Rd Try.prog 29 (Kd.slice 3 (Kd.int .i64)) Ok29 := rd_slice Try.underlying29 (by kernel_rfl) rd3
def Wf (a : Int) : Prop := (Lit.int .i64 a).wf = true
theorem rd41 : Rd Try.prog 41 k41 Ok41 := by
  refine rd_struct (ok := fun p : Int × Int × Int => Wf p.1 ∧ Wf p.2.1 ∧ Wf p.2.2) (d := Kd.pair (Kd.int .i64) (Kd.pair (Kd.int .i64) (Kd.int .i64))) (f := fun x : S41 => (x.f0, x.f1, x.f2)) (fun a => (⟨a.1, a.2.1, a.2.2⟩ : S41)) (fun y => rfl) Try.underlying41 (by kernel_rfl) ?_
  refine rdf_cons (ok := Wf) (ok' := fun p : Int × Int => Wf p.1 ∧ Wf p.2) rfl rd3 ?_
  refine rdf_cons (ok := Wf) (ok' := Wf) rfl rd3 ?_
  exact rdf_one rfl rd3
theorem rd28 : Rd Try.prog 28 (Kd.slice 41 k41) Ok28 := rd_slice (d := k41) Try.underlying28 (by kernel_rfl) rd41
theorem rd31 : Rd Try.prog 31 k31 Ok31 := by
  refine rd_struct (ok := fun p : Int × List S41 × List Int => Wf p.1 ∧ Ok28 p.2.1 ∧ Ok29 p.2.2) (d := Kd.pair (Kd.int .i64) (Kd.pair (Kd.slice 41 k41) (Kd.slice 3 (Kd.int .i64)))) (f := fun x : S31 => (x.f0, x.f1, x.f2)) (fun a => (⟨a.1, a.2.1, a.2.2⟩ : S31)) (fun y => rfl) Try.underlying31 (by kernel_rfl) ?_
  refine rdf_cons (ok := Wf) (ok' := fun p : List S41 × List Int => Ok28 p.1 ∧ Ok29 p.2) rfl rd3 ?_
  refine rdf_cons (ok := Ok28) (ok' := Ok29) rfl rd28 ?_
  exact rdf_one rfl rd29
theorem bytes41 : Try.prog.bytesOf 41 = 24 := by kernel_rfl
theorem bytes3 : Try.prog.bytesOf 3 = 8 := by kernel_rfl
theorem bytes31 : Try.prog.bytesOf 31 = 56 := by kernel_rfl
theorem graph_bounds {x : S31} (h : Ok31 x) : x.f1.length < 5864062014805 ∧ x.f2.length < 17592186044416 := by
  have h1 := h.2.1.1
  have h2 := h.2.2.1
  rw [bytes41] at h1
  rw [bytes3] at h2
  omega
theorem ints_bounds {xs : List Int} (h : Ok29 xs) : xs.length < 17592186044416 := by
  have h1 := h.1
  rw [bytes3] at h1
  omega
theorem open_ints {r : Reach} {W : World} {b : Nat} {v : Value} {xs : List Int} (ov : Value.okWide Try.prog W r b 29 v) (h : (Kd.slice 3 (Kd.int .i64)).K W xs v.cells.toList) : ∃ A c, v = .slice A xs.length c ∧ xs.length ≤ c ∧ Kd.C (Kd.int .i64) W A xs.length xs := by
  obtain ⟨a, l, c, rfl⟩ := Go.WideShapes.okWide_slice Try.underlying29 ov
  obtain ⟨A, c', h1, h2, h3⟩ := h
  cases h1
  exact ⟨_, _, rfl, h2, h3⟩
theorem open_graph {r : Reach} {W : World} {b : Nat} {v : Value} {x : S31} (ov : Value.okWide Try.prog W r b 31 v) (h : k31.K W x v.cells.toList) : ∃ A1 c1 A2 c2, v = .agg #[.int .i64 x.f0, .slice A1 x.f1.length c1, .slice A2 x.f2.length c2] ∧ x.f1.length ≤ c1 ∧ k41.C W A1 x.f1.length x.f1 ∧ x.f2.length ≤ c2 ∧ (Kd.int .i64).C W A2 x.f2.length x.f2 := by
  obtain ⟨cs, rfl, _⟩ := Go.WideShapes.okWide_struct Try.underlying31 ov
  obtain ⟨A1, c1, A2, c2, hcs, l1, g1, l2, g2⟩ := k31_open h
  obtain rfl : cs = #[.int .i64 x.f0, .slice A1 x.f1.length c1, .slice A2 x.f2.length c2] := by cases cs; exact congrArg List.toArray hcs
  exact ⟨A1, c1, A2, c2, rfl, l1, g1, l2, g2⟩
end Go.Proofs.Ytmjdiiockddalaa.PW
