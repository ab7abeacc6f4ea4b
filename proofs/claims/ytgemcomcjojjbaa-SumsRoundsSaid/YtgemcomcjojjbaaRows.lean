/-
  No cell of these rows narrows 'for every input' (looked for: loops, veiled, ifaces, maps, wideKeys, modest, calm, conditions, laid).
  DERIVED. THE GIVEN ROWS OF THIS SEAT. 5 by the template 'for every input the law returns true; each argument reads behind the call as it read before'; 0 by the template 'total and deterministic' (their statements: YtgemcomcjojjbaaTotals.lean).
  GIVEN WITH THE SEED: the statements are not yours to turn. If you find one false, say at which input.
  Laid BY PROGRAM, IN A SANDBOX (cutbox-rows.mjs): the forced cells as the released guide's own fill.sh prints them over the translation 15561c46aa307fec… (all of the seat's roots in one cut). By AI agents, Wed Nov 11 2026. No macro, syntax, notation, axiom, sorry.
-/
import Derived.Test.YtgemcomcjojjbaaChecked
import GoSem.Claim
import GoSem.ClaimJoined
import GoSem.ClaimMapViews
import Derived.JoinedTies
import Derived.KernelRfl
namespace Go.Proofs.Ytgemcomcjojjbaa
/- THE CELL 'sum', in the pinned program and in every row, IS THE sha256 OF THE DUMP (.gsa) THAT YtgemcomcjojjbaaProg.lean LOADS. Nothing in Lean hashes anything: it is a label: what it is worth is what the hold of that sum in a sandbox is worth. -/
noncomputable def Try.pinned : Pinned := { name := "ytgemcomcjojjbaa", sum := "15561c46aa307fec1134846d56a730bc24dc98ced18bd41b9cd2be26a770a68a", checked := Try.checked }
namespace Rows
def none {H : Type} : Left H := { results := [], args := [] }

/-- 'fuguelaw09.SumsOrder': WHATEVER THE INPUT: true; the input reads as it did. -/
def sumsOrderSpec : ChangeSpec := { name := "sumsOrder", fn := fun _ => fun
  | [d] => { results := [.lit (.bool true)], args := [d] }
  | _ => none }
def sumsOrderRow : OpenClaim := { program := "ytgemcomcjojjbaa", sum := "15561c46aa307fec1134846d56a730bc24dc98ced18bd41b9cd2be26a770a68a", func := "fugue/fuguelaw09.SumsOrder", spec := "sumsOrder", unfollowed := true, recurses := true, apart := false }
def SumsOrderSaid : Prop := sumsOrderRow.holds Try.pinned (OpenSpec.ofChange sumsOrderSpec)

/-- ITS FALSE NEIGHBOUR: 'it returns false'. Refute it at one input. -/
def sumsOrderWrong : ChangeSpec := { name := "sumsOrder", fn := fun _ => fun
  | [d] => { results := [.lit (.bool false)], args := [d] }
  | _ => none }
def SumsOrderWrongFalsely : Prop := sumsOrderRow.holds Try.pinned (OpenSpec.ofChange sumsOrderWrong)

/-- 'fuguelaw09.SumsRefuses': WHATEVER THE INPUT: true; the input reads as it did. -/
def sumsRefusesSpec : ChangeSpec := { name := "sumsRefuses", fn := fun _ => fun
  | [d1, d2, d3] => { results := [.lit (.bool true)], args := [d1, d2, d3] }
  | _ => none }
def sumsRefusesRow : OpenClaim := { program := "ytgemcomcjojjbaa", sum := "15561c46aa307fec1134846d56a730bc24dc98ced18bd41b9cd2be26a770a68a", func := "fugue/fuguelaw09.SumsRefuses", spec := "sumsRefuses", unfollowed := true, recurses := true, apart := false }
def SumsRefusesSaid : Prop := sumsRefusesRow.holds Try.pinned (OpenSpec.ofChange sumsRefusesSpec)

/-- ITS FALSE NEIGHBOUR: 'it returns false'. Refute it at one input. -/
def sumsRefusesWrong : ChangeSpec := { name := "sumsRefuses", fn := fun _ => fun
  | [d1, d2, d3] => { results := [.lit (.bool false)], args := [d1, d2, d3] }
  | _ => none }
def SumsRefusesWrongFalsely : Prop := sumsRefusesRow.holds Try.pinned (OpenSpec.ofChange sumsRefusesWrong)

/-- 'fuguetop.Names': WHATEVER THE INPUT: true; the input reads as it did. -/
def namesSpec : ChangeSpec := { name := "names", fn := fun _ => fun
  | [] => { results := [.lit (.bool true)], args := [] }
  | _ => none }
def namesRow : OpenClaim := { program := "ytgemcomcjojjbaa", sum := "15561c46aa307fec1134846d56a730bc24dc98ced18bd41b9cd2be26a770a68a", func := "fugue/fuguetop.Names", spec := "names", apart := false }
def NamesSaid : Prop := namesRow.holds Try.pinned (OpenSpec.ofChange namesSpec)

/-- ITS FALSE NEIGHBOUR: 'it returns false'. Refute it at one input. -/
def namesWrong : ChangeSpec := { name := "names", fn := fun _ => fun
  | [] => { results := [.lit (.bool false)], args := [] }
  | _ => none }
def NamesWrongFalsely : Prop := namesRow.holds Try.pinned (OpenSpec.ofChange namesWrong)

/-- 'fuguelaw09.SumsRounds': WHATEVER THE INPUT: true; the input reads as it did. -/
def sumsRoundsSpec : ChangeSpec := { name := "sumsRounds", fn := fun _ => fun
  | [d1, d2, d3] => { results := [.lit (.bool true)], args := [d1, d2, d3] }
  | _ => none }
def sumsRoundsRow : OpenClaim := { program := "ytgemcomcjojjbaa", sum := "15561c46aa307fec1134846d56a730bc24dc98ced18bd41b9cd2be26a770a68a", func := "fugue/fuguelaw09.SumsRounds", spec := "sumsRounds", unfollowed := true, recurses := true, apart := false }
def SumsRoundsSaid : Prop := sumsRoundsRow.holds Try.pinned (OpenSpec.ofChange sumsRoundsSpec)

/-- ITS FALSE NEIGHBOUR: 'it returns false'. Refute it at one input. -/
def sumsRoundsWrong : ChangeSpec := { name := "sumsRounds", fn := fun _ => fun
  | [d1, d2, d3] => { results := [.lit (.bool false)], args := [d1, d2, d3] }
  | _ => none }
def SumsRoundsWrongFalsely : Prop := sumsRoundsRow.holds Try.pinned (OpenSpec.ofChange sumsRoundsWrong)

/-- 'fuguelaw09.SumsJoins': WHATEVER THE INPUT: true; the input reads as it did. -/
def sumsJoinsSpec : ChangeSpec := { name := "sumsJoins", fn := fun _ => fun
  | [d1, d2] => { results := [.lit (.bool true)], args := [d1, d2] }
  | _ => none }
def sumsJoinsRow : OpenClaim := { program := "ytgemcomcjojjbaa", sum := "15561c46aa307fec1134846d56a730bc24dc98ced18bd41b9cd2be26a770a68a", func := "fugue/fuguelaw09.SumsJoins", spec := "sumsJoins", unfollowed := true, recurses := true, apart := false }
def SumsJoinsSaid : Prop := sumsJoinsRow.holds Try.pinned (OpenSpec.ofChange sumsJoinsSpec)

/-- ITS FALSE NEIGHBOUR: 'it returns false'. Refute it at one input. -/
def sumsJoinsWrong : ChangeSpec := { name := "sumsJoins", fn := fun _ => fun
  | [d1, d2] => { results := [.lit (.bool false)], args := [d1, d2] }
  | _ => none }
def SumsJoinsWrongFalsely : Prop := sumsJoinsRow.holds Try.pinned (OpenSpec.ofChange sumsJoinsWrong)

/- THE SECOND FORM. 'bulk': how many values and letters a reading holds, each counted each time it is reached (what is shared counts as often as it is met; a slice's spare places count too). A statement '..UptoSaid' is the law's where the arguments, and the package variables that the reading takes, are together of bulk at most 1048576: NARROWER than '..Said'. Prove '..Said' where nothing that the law and all that it calls make is longer than what came in: it says more and counts as full. Else prove '..UptoSaid'. A law counts once. -/
mutual
def uptoBulk {H : Type} : DataW H → Nat
  | .lit (.string bytes) => bytes.length + 1
  | .lit _ => 1
  | .nil => 1
  | .ptr d => uptoBulk d + 1
  | .slice elems spare => uptoBulkAll elems + uptoBulkAll spare + 1
  | .agg parts => uptoBulkAll parts + 1
  | .iface _ d => uptoBulk d + 1
  | .map entries => uptoBulkEntries entries + 1
  | .held _ => 1
def uptoBulkAll {H : Type} : List (DataW H) → Nat
  | [] => 0
  | d :: r => uptoBulk d + uptoBulkAll r
def uptoBulkEntries {H : Type} : List (Lit × DataW H) → Nat
  | [] => 0
  | x :: r => uptoBulkEntry x + uptoBulkEntries r
def uptoBulkEntry {H : Type} : Lit × DataW H → Nat
  | (.string bytes, d) => bytes.length + uptoBulk d + 1
  | (_, d) => uptoBulk d + 1
 end
def uptoSmall : (H : Type) → List (DataW H) → Bool := fun _ ds => decide (uptoBulkAll ds ≤ 1048576)
def OpenSpec.upto (s : _root_.Go.ChangeSpec) : _root_.Go.OpenSpec := { _root_.Go.OpenSpec.ofChange s with cond := some uptoSmall }

/-- 'fuguelaw09.SumsOrder', WHERE WHAT IT READS IS OF BULK AT MOST 1048576: true; the input reads as it did. -/
def sumsOrderUptoRow : OpenClaim := { program := "ytgemcomcjojjbaa", sum := "15561c46aa307fec1134846d56a730bc24dc98ced18bd41b9cd2be26a770a68a", func := "fugue/fuguelaw09.SumsOrder", spec := "sumsOrder", unfollowed := true, recurses := true, apart := false, narrowed := true }
def SumsOrderUptoSaid : Prop := sumsOrderUptoRow.holds Try.pinned (OpenSpec.upto sumsOrderSpec)

/-- 'fuguelaw09.SumsRefuses', WHERE WHAT IT READS IS OF BULK AT MOST 1048576: true; the input reads as it did. -/
def sumsRefusesUptoRow : OpenClaim := { program := "ytgemcomcjojjbaa", sum := "15561c46aa307fec1134846d56a730bc24dc98ced18bd41b9cd2be26a770a68a", func := "fugue/fuguelaw09.SumsRefuses", spec := "sumsRefuses", unfollowed := true, recurses := true, apart := false, narrowed := true }
def SumsRefusesUptoSaid : Prop := sumsRefusesUptoRow.holds Try.pinned (OpenSpec.upto sumsRefusesSpec)

/-- 'fuguetop.Names', WHERE WHAT IT READS IS OF BULK AT MOST 1048576: true; the input reads as it did. -/
def namesUptoRow : OpenClaim := { program := "ytgemcomcjojjbaa", sum := "15561c46aa307fec1134846d56a730bc24dc98ced18bd41b9cd2be26a770a68a", func := "fugue/fuguetop.Names", spec := "names", apart := false, narrowed := true }
def NamesUptoSaid : Prop := namesUptoRow.holds Try.pinned (OpenSpec.upto namesSpec)

/-- 'fuguelaw09.SumsRounds', WHERE WHAT IT READS IS OF BULK AT MOST 1048576: true; the input reads as it did. -/
def sumsRoundsUptoRow : OpenClaim := { program := "ytgemcomcjojjbaa", sum := "15561c46aa307fec1134846d56a730bc24dc98ced18bd41b9cd2be26a770a68a", func := "fugue/fuguelaw09.SumsRounds", spec := "sumsRounds", unfollowed := true, recurses := true, apart := false, narrowed := true }
def SumsRoundsUptoSaid : Prop := sumsRoundsUptoRow.holds Try.pinned (OpenSpec.upto sumsRoundsSpec)

/-- 'fuguelaw09.SumsJoins', WHERE WHAT IT READS IS OF BULK AT MOST 1048576: true; the input reads as it did. -/
def sumsJoinsUptoRow : OpenClaim := { program := "ytgemcomcjojjbaa", sum := "15561c46aa307fec1134846d56a730bc24dc98ced18bd41b9cd2be26a770a68a", func := "fugue/fuguelaw09.SumsJoins", spec := "sumsJoins", unfollowed := true, recurses := true, apart := false, narrowed := true }
def SumsJoinsUptoSaid : Prop := sumsJoinsUptoRow.holds Try.pinned (OpenSpec.upto sumsJoinsSpec)

end Rows
end Go.Proofs.Ytgemcomcjojjbaa
