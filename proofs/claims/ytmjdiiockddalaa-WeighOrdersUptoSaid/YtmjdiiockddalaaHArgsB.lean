/- How the laws' arguments read, with their bulk: edges, lists of edges, graphs, lists of numbers. -/
import Derived.Test.YtmjdiiockddalaaHArgs
import Derived.Test.YtmjdiiockddalaaOpenB
namespace Go.Proofs.Ytmjdiiockddalaa.PW
open Go.RowKit Go.Proofs.YtmjdiiockddalaaW.PrintWords Go.Proofs.Ytmjdiiockddalaa.OpenB
def Bd29 (N : Nat) (xs : List Int) : Prop := xs.length ≤ N ∧ ∀ a ∈ xs, True
def Bd28 (N : Nat) (xs : List S41) : Prop := xs.length ≤ N ∧ ∀ a ∈ xs, True ∧ True ∧ True
def Bd31 (N : Nat) (x : S31) : Prop := True ∧ Bd28 N x.f1 ∧ Bd29 N x.f2
def T1 (_ : Nat) (_ : Int) : Prop := True
theorem rb3 : Rd Try.prog 3 (Kd.int .i64) Wf T1 := rd_int Try.underlying3 (by kernel_rfl)
theorem rb29 : Rd Try.prog 29 (Kd.slice 3 (Kd.int .i64)) Ok29 Bd29 := rd_slice (bd := T1) Try.underlying29 (by kernel_rfl) rb3
theorem rb41 : Rd Try.prog 41 k41 Ok41 (fun N a => True ∧ True ∧ True) := by
  refine rd_struct (ok := fun p : Int × Int × Int => Wf p.1 ∧ Wf p.2.1 ∧ Wf p.2.2) (bd := fun N p => T1 N p.1 ∧ T1 N p.2.1 ∧ T1 N p.2.2) (d := Kd.pair (Kd.int .i64) (Kd.pair (Kd.int .i64) (Kd.int .i64))) (f := fun x : S41 => (x.f0, x.f1, x.f2)) (fun a => (⟨a.1, a.2.1, a.2.2⟩ : S41)) (fun y => rfl) Try.underlying41 (by kernel_rfl) ?_
  refine rdf_cons (ok := Wf) (bd := T1) (ok' := fun p : Int × Int => Wf p.1 ∧ Wf p.2) (bd' := fun N p => T1 N p.1 ∧ T1 N p.2) rfl rb3 ?_
  refine rdf_cons (ok := Wf) (ok' := Wf) (bd := T1) (bd' := T1) rfl rb3 ?_
  exact rdf_one rfl rb3
theorem rb28 : Rd Try.prog 28 (Kd.slice 41 k41) Ok28 Bd28 := rd_slice (d := k41) Try.underlying28 (by kernel_rfl) rb41
theorem rb31 : Rd Try.prog 31 k31 Ok31 Bd31 := by
  refine rd_struct (ok := fun p : Int × List S41 × List Int => Wf p.1 ∧ Ok28 p.2.1 ∧ Ok29 p.2.2) (bd := fun N p => T1 N p.1 ∧ Bd28 N p.2.1 ∧ Bd29 N p.2.2) (d := Kd.pair (Kd.int .i64) (Kd.pair (Kd.slice 41 k41) (Kd.slice 3 (Kd.int .i64)))) (f := fun x : S31 => (x.f0, x.f1, x.f2)) (fun a => (⟨a.1, a.2.1, a.2.2⟩ : S31)) (fun y => rfl) Try.underlying31 (by kernel_rfl) ?_
  refine rdf_cons (ok := Wf) (bd := T1) (ok' := fun p : List S41 × List Int => Ok28 p.1 ∧ Ok29 p.2) (bd' := fun N p => Bd28 N p.1 ∧ Bd29 N p.2) rfl rb3 ?_
  refine rdf_cons (ok := Ok28) (ok' := Ok29) (bd := Bd28) (bd' := Bd29) rfl rb28 ?_
  exact rdf_one rfl rb29
end Go.Proofs.Ytmjdiiockddalaa.PW
