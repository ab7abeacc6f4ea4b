/- How the sums laws' arguments read: three lists of numbers with a shape. -/
import Derived.Test.YtgemcomcjojjbaaPSx0
import Derived.Test.YtgemcomcjojjbaaOpen
import Derived.WideShapes
namespace Go.Proofs.Ytgemcomcjojjbaa.PS
open Go.RowKit Go.Proofs.YtgemcomcjojjbaaW.PrintWords Go.Proofs.Ytgemcomcjojjbaa.Open
instance : Inhabited S24 := ⟨z24⟩
def Wf (a : Int) : Prop := (Lit.int .i64 a).wf = true
theorem rd3 : Rd Try.prog 3 (Kd.int .i64) Wf := rd_int Try.underlying3 (by kernel_rfl)
def Ok22 (xs : List Int) : Prop := xs.length * Try.prog.bytesOf 3 ≤ 140737488351232 ∧ ∀ a ∈ xs, Wf a
theorem rd22 : Rd Try.prog 22 (Kd.slice 3 (Kd.int .i64)) Ok22 := rd_slice Try.underlying22 (by kernel_rfl) rd3
def Ok24 (x : S24) : Prop := Wf x.f0 ∧ Wf x.f1 ∧ Ok22 x.f2 ∧ Ok22 x.f3 ∧ Ok22 x.f4
theorem rd24 : Rd Try.prog 24 k24 Ok24 := by
  refine rd_struct (ok := fun p : Int × Int × List Int × List Int × List Int => Wf p.1 ∧ Wf p.2.1 ∧ Ok22 p.2.2.1 ∧ Ok22 p.2.2.2.1 ∧ Ok22 p.2.2.2.2) (d := Kd.pair (Kd.int .i64) (Kd.pair (Kd.int .i64) (Kd.pair (Kd.slice 3 (Kd.int .i64)) (Kd.pair (Kd.slice 3 (Kd.int .i64)) (Kd.slice 3 (Kd.int .i64)))))) (f := fun x : S24 => (x.f0, x.f1, x.f2, x.f3, x.f4)) (fun a => (⟨a.1, a.2.1, a.2.2.1, a.2.2.2.1, a.2.2.2.2⟩ : S24)) (fun y => rfl) Try.underlying24 (by kernel_rfl) ?_
  refine rdf_cons (ok := Wf) (ok' := fun p : Int × List Int × List Int × List Int => Wf p.1 ∧ Ok22 p.2.1 ∧ Ok22 p.2.2.1 ∧ Ok22 p.2.2.2) rfl rd3 ?_
  refine rdf_cons (ok := Wf) (ok' := fun p : List Int × List Int × List Int => Ok22 p.1 ∧ Ok22 p.2.1 ∧ Ok22 p.2.2) rfl rd3 ?_
  refine rdf_cons (ok := Ok22) (ok' := fun p : List Int × List Int => Ok22 p.1 ∧ Ok22 p.2) rfl rd22 ?_
  refine rdf_cons (ok := Ok22) (ok' := Ok22) rfl rd22 ?_
  exact rdf_one rfl rd22
theorem open_three {r : Reach} {W : World} {b : Nat} {v : Value} {x : S24} (ov : Value.okWide Try.prog W r b 24 v) (h : k24.K W x v.cells.toList) : ∃ A2 c2 A3 c3 A4 c4, v = .agg #[.int .i64 x.f0, .int .i64 x.f1, .slice A2 x.f2.length c2, .slice A3 x.f3.length c3, .slice A4 x.f4.length c4] ∧ x.f2.length ≤ c2 ∧ (Kd.int .i64).C W A2 x.f2.length x.f2 ∧ x.f3.length ≤ c3 ∧ (Kd.int .i64).C W A3 x.f3.length x.f3 ∧ x.f4.length ≤ c4 ∧ (Kd.int .i64).C W A4 x.f4.length x.f4 := by
  obtain ⟨cs, rfl, _⟩ := Go.WideShapes.okWide_struct Try.underlying24 ov
  obtain ⟨A2, c2, A3, c3, A4, c4, hcs, l2, g2, l3, g3, l4, g4⟩ := k24_open h
  obtain rfl : cs = #[.int .i64 x.f0, .int .i64 x.f1, .slice A2 x.f2.length c2, .slice A3 x.f3.length c3, .slice A4 x.f4.length c4] := by cases cs; exact congrArg List.toArray hcs
  exact ⟨A2, c2, A3, c3, A4, c4, rfl, l2, g2, l3, g3, l4, g4⟩
end Go.Proofs.Ytgemcomcjojjbaa.PS
