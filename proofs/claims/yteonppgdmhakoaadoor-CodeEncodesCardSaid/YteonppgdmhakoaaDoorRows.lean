/-
  NARROWER THAN 'FOR EVERY INPUT', by the rows' own cells (each row's printed sentence says how): CodeChecks: laid · CodeEncodes: laid · CodeDecodes: laid · CodeLists: laid · CodeRounds: laid · CodeCuts: laid · CodeStays: laid.
  DERIVED. THE GIVEN ROWS OF THIS SEAT. 7 by the template 'for every input the law returns true; each argument reads behind the call as it read before'; 0 by the template 'total and deterministic' (their statements: YteonppgdmhakoaaDoorTotals.lean).
  GIVEN WITH THE SEED: the statements are not yours to turn. If you find one false, say at which input.
  Laid BY PROGRAM, IN A SANDBOX (cutbox-rows.mjs): the forced cells as the released guide's own fill.sh prints them over the translation 58c8557224c94925… (all of the seat's roots in one cut). By AI agents, Wed Nov 11 2026. No macro, syntax, notation, axiom, sorry.
-/
import Derived.Test.YteonppgdmhakoaaDoorChecked
import GoSem.Claim
import GoSem.ClaimJoined
import GoSem.ClaimMapViews
import Derived.JoinedTies
import Derived.KernelRfl
namespace Go.Proofs.YteonppgdmhakoaaDoor
/- THE CELL 'sum', in the pinned program and in every row, IS THE sha256 OF THE DUMP (.gsa) THAT YteonppgdmhakoaaDoorProg.lean LOADS. Nothing in Lean hashes anything: it is a label: what it is worth is what the hold of that sum in a sandbox is worth. -/
noncomputable def Tryd.pinned : Pinned := { name := "yteonppgdmhakoaadoor", sum := "58c8557224c94925cefbc5a3fc4cafe40440d2081280920e9801791ba5a4d876", checked := Tryd.checked }
namespace Rows
def none {H : Type} : Left H := { results := [], args := [] }

/- WHAT THE LISTED PACKAGE-LEVEL VARIABLES READ AS WHEN THE CALL BEGINS. Each datum BY PROGRAM (the guide's laid-datum.mjs) off the statement by which the dump's own 'gosem.cut.vars' lays the variable. In a bare row this is a premise. The card (YteonppgdmhakoaaDoorCards.lean) ties it to the program's text. -/
def laid_fugue_code_bytes {H : Type} : DataW H := .agg [.lit (.int .i64 0), .lit (.int .i64 8), .lit (.int .i64 0), .lit (.int .i64 0), .lit (.int .i64 0), .lit (.int .i64 0), .lit (.int .i64 1), .lit (.int .i64 1), .lit (.int .i64 1), .lit (.int .i64 1), .lit (.int .i64 1), .lit (.int .i64 2), .lit (.int .i64 0), .lit (.int .i64 2), .lit (.int .i64 2)]

/-- 'fuguelaw01.CodeChecks': WHATEVER THE INPUT: true; the input reads as it did. -/
def codeChecksSpec : ChangeSpec := { name := "codeChecks", fn := fun _ => fun
  | [d] => { results := [.lit (.bool true)], args := [d] }
  | _ => none }
def codeChecksRow : OpenClaim := { program := "yteonppgdmhakoaadoor", sum := "58c8557224c94925cefbc5a3fc4cafe40440d2081280920e9801791ba5a4d876", func := "fugue/fuguelaw01.CodeChecks", spec := "codeChecks", unfollowed := true, recurses := true, named := ["fugue/code.bytes"], apart := false, laid := [("fugue/code.bytes", laid_fugue_code_bytes)] }
def CodeChecksSaid : Prop := codeChecksRow.holds Tryd.pinned (OpenSpec.ofChange codeChecksSpec)

/-- ITS FALSE NEIGHBOUR: 'it returns false'. Refute it at one input. -/
def codeChecksWrong : ChangeSpec := { name := "codeChecks", fn := fun _ => fun
  | [d] => { results := [.lit (.bool false)], args := [d] }
  | _ => none }
def CodeChecksWrongFalsely : Prop := codeChecksRow.holds Tryd.pinned (OpenSpec.ofChange codeChecksWrong)

/-- 'fuguelaw01.CodeEncodes': WHATEVER THE INPUT: true; the input reads as it did. -/
def codeEncodesSpec : ChangeSpec := { name := "codeEncodes", fn := fun _ => fun
  | [d] => { results := [.lit (.bool true)], args := [d] }
  | _ => none }
def codeEncodesRow : OpenClaim := { program := "yteonppgdmhakoaadoor", sum := "58c8557224c94925cefbc5a3fc4cafe40440d2081280920e9801791ba5a4d876", func := "fugue/fuguelaw01.CodeEncodes", spec := "codeEncodes", unfollowed := true, recurses := true, named := ["fugue/code.bytes"], apart := false, laid := [("fugue/code.bytes", laid_fugue_code_bytes)] }
def CodeEncodesSaid : Prop := codeEncodesRow.holds Tryd.pinned (OpenSpec.ofChange codeEncodesSpec)

/-- ITS FALSE NEIGHBOUR: 'it returns false'. Refute it at one input. -/
def codeEncodesWrong : ChangeSpec := { name := "codeEncodes", fn := fun _ => fun
  | [d] => { results := [.lit (.bool false)], args := [d] }
  | _ => none }
def CodeEncodesWrongFalsely : Prop := codeEncodesRow.holds Tryd.pinned (OpenSpec.ofChange codeEncodesWrong)

/-- 'fuguelaw01.CodeDecodes': WHATEVER THE INPUT: true; the input reads as it did. -/
def codeDecodesSpec : ChangeSpec := { name := "codeDecodes", fn := fun _ => fun
  | [d] => { results := [.lit (.bool true)], args := [d] }
  | _ => none }
def codeDecodesRow : OpenClaim := { program := "yteonppgdmhakoaadoor", sum := "58c8557224c94925cefbc5a3fc4cafe40440d2081280920e9801791ba5a4d876", func := "fugue/fuguelaw01.CodeDecodes", spec := "codeDecodes", unfollowed := true, recurses := true, named := ["fugue/code.bytes"], apart := false, laid := [("fugue/code.bytes", laid_fugue_code_bytes)] }
def CodeDecodesSaid : Prop := codeDecodesRow.holds Tryd.pinned (OpenSpec.ofChange codeDecodesSpec)

/-- ITS FALSE NEIGHBOUR: 'it returns false'. Refute it at one input. -/
def codeDecodesWrong : ChangeSpec := { name := "codeDecodes", fn := fun _ => fun
  | [d] => { results := [.lit (.bool false)], args := [d] }
  | _ => none }
def CodeDecodesWrongFalsely : Prop := codeDecodesRow.holds Tryd.pinned (OpenSpec.ofChange codeDecodesWrong)

/-- 'fuguelaw01.CodeLists': WHATEVER THE INPUT: true; the input reads as it did. -/
def codeListsSpec : ChangeSpec := { name := "codeLists", fn := fun _ => fun
  | [d] => { results := [.lit (.bool true)], args := [d] }
  | _ => none }
def codeListsRow : OpenClaim := { program := "yteonppgdmhakoaadoor", sum := "58c8557224c94925cefbc5a3fc4cafe40440d2081280920e9801791ba5a4d876", func := "fugue/fuguelaw01.CodeLists", spec := "codeLists", unfollowed := true, recurses := true, named := ["fugue/code.bytes"], apart := false, laid := [("fugue/code.bytes", laid_fugue_code_bytes)] }
def CodeListsSaid : Prop := codeListsRow.holds Tryd.pinned (OpenSpec.ofChange codeListsSpec)

/-- ITS FALSE NEIGHBOUR: 'it returns false'. Refute it at one input. -/
def codeListsWrong : ChangeSpec := { name := "codeLists", fn := fun _ => fun
  | [d] => { results := [.lit (.bool false)], args := [d] }
  | _ => none }
def CodeListsWrongFalsely : Prop := codeListsRow.holds Tryd.pinned (OpenSpec.ofChange codeListsWrong)

/-- 'fuguelaw01.CodeRounds': WHATEVER THE INPUT: true; the input reads as it did. -/
def codeRoundsSpec : ChangeSpec := { name := "codeRounds", fn := fun _ => fun
  | [d1, d2] => { results := [.lit (.bool true)], args := [d1, d2] }
  | _ => none }
def codeRoundsRow : OpenClaim := { program := "yteonppgdmhakoaadoor", sum := "58c8557224c94925cefbc5a3fc4cafe40440d2081280920e9801791ba5a4d876", func := "fugue/fuguelaw01.CodeRounds", spec := "codeRounds", unfollowed := true, recurses := true, named := ["fugue/code.bytes"], apart := false, laid := [("fugue/code.bytes", laid_fugue_code_bytes)] }
def CodeRoundsSaid : Prop := codeRoundsRow.holds Tryd.pinned (OpenSpec.ofChange codeRoundsSpec)

/-- ITS FALSE NEIGHBOUR: 'it returns false'. Refute it at one input. -/
def codeRoundsWrong : ChangeSpec := { name := "codeRounds", fn := fun _ => fun
  | [d1, d2] => { results := [.lit (.bool false)], args := [d1, d2] }
  | _ => none }
def CodeRoundsWrongFalsely : Prop := codeRoundsRow.holds Tryd.pinned (OpenSpec.ofChange codeRoundsWrong)

/-- 'fuguelaw01.CodeCuts': WHATEVER THE INPUT: true; the input reads as it did. -/
def codeCutsSpec : ChangeSpec := { name := "codeCuts", fn := fun _ => fun
  | [d1, d2, d3] => { results := [.lit (.bool true)], args := [d1, d2, d3] }
  | _ => none }
def codeCutsRow : OpenClaim := { program := "yteonppgdmhakoaadoor", sum := "58c8557224c94925cefbc5a3fc4cafe40440d2081280920e9801791ba5a4d876", func := "fugue/fuguelaw01.CodeCuts", spec := "codeCuts", unfollowed := true, recurses := true, named := ["fugue/code.bytes"], apart := false, laid := [("fugue/code.bytes", laid_fugue_code_bytes)] }
def CodeCutsSaid : Prop := codeCutsRow.holds Tryd.pinned (OpenSpec.ofChange codeCutsSpec)

/-- ITS FALSE NEIGHBOUR: 'it returns false'. Refute it at one input. -/
def codeCutsWrong : ChangeSpec := { name := "codeCuts", fn := fun _ => fun
  | [d1, d2, d3] => { results := [.lit (.bool false)], args := [d1, d2, d3] }
  | _ => none }
def CodeCutsWrongFalsely : Prop := codeCutsRow.holds Tryd.pinned (OpenSpec.ofChange codeCutsWrong)

/-- 'fuguelaw01.CodeStays': WHATEVER THE INPUT: true; the input reads as it did. -/
def codeStaysSpec : ChangeSpec := { name := "codeStays", fn := fun _ => fun
  | [d1, d2] => { results := [.lit (.bool true)], args := [d1, d2] }
  | _ => none }
def codeStaysRow : OpenClaim := { program := "yteonppgdmhakoaadoor", sum := "58c8557224c94925cefbc5a3fc4cafe40440d2081280920e9801791ba5a4d876", func := "fugue/fuguelaw01.CodeStays", spec := "codeStays", unfollowed := true, recurses := true, named := ["fugue/code.bytes"], apart := false, laid := [("fugue/code.bytes", laid_fugue_code_bytes)] }
def CodeStaysSaid : Prop := codeStaysRow.holds Tryd.pinned (OpenSpec.ofChange codeStaysSpec)

/-- ITS FALSE NEIGHBOUR: 'it returns false'. Refute it at one input. -/
def codeStaysWrong : ChangeSpec := { name := "codeStays", fn := fun _ => fun
  | [d1, d2] => { results := [.lit (.bool false)], args := [d1, d2] }
  | _ => none }
def CodeStaysWrongFalsely : Prop := codeStaysRow.holds Tryd.pinned (OpenSpec.ofChange codeStaysWrong)

/- THE SECOND FORM. 'bulk': how many values and letters a reading holds, each counted each time it is reached (what is shared counts as often as it is met; a slice's spare places count too). A statement '..UptoSaid' is the law's where the arguments, and the package variables that the reading takes, are together of bulk at most 1048576: NARROWER than '..Said'. Prove '..Said' where nothing that the law and all that it calls make is longer than what came in: it says more and counts as full. Else prove '..UptoSaid'. A law counts once. -/
mutual
def uptoBulk {H : Type} : DataW H → Nat
  | .lit (.string bytes) => bytes.length + 1
  | .lit _ => 1
  | .nil => 1
  | .ptr d => uptoBulk d + 1
  | .slice elems spare => uptoBulkAll elems + uptoBulkAll spare + 1
  | .agg parts => uptoBulkAll parts + 1
  | .iface _ d => uptoBulk d + 1
  | .map entries => uptoBulkEntries entries + 1
  | .held _ => 1
def uptoBulkAll {H : Type} : List (DataW H) → Nat
  | [] => 0
  | d :: r => uptoBulk d + uptoBulkAll r
def uptoBulkEntries {H : Type} : List (Lit × DataW H) → Nat
  | [] => 0
  | x :: r => uptoBulkEntry x + uptoBulkEntries r
def uptoBulkEntry {H : Type} : Lit × DataW H → Nat
  | (.string bytes, d) => bytes.length + uptoBulk d + 1
  | (_, d) => uptoBulk d + 1
 end
def uptoSmall : (H : Type) → List (DataW H) → Bool := fun _ ds => decide (uptoBulkAll ds ≤ 1048576)
def OpenSpec.upto (s : _root_.Go.ChangeSpec) : _root_.Go.OpenSpec := { _root_.Go.OpenSpec.ofChange s with cond := some uptoSmall }

/-- 'fuguelaw01.CodeChecks', WHERE WHAT IT READS IS OF BULK AT MOST 1048576: true; the input reads as it did. -/
def codeChecksUptoRow : OpenClaim := { program := "yteonppgdmhakoaadoor", sum := "58c8557224c94925cefbc5a3fc4cafe40440d2081280920e9801791ba5a4d876", func := "fugue/fuguelaw01.CodeChecks", spec := "codeChecks", unfollowed := true, recurses := true, named := ["fugue/code.bytes"], apart := false, laid := [("fugue/code.bytes", laid_fugue_code_bytes)], narrowed := true }
def CodeChecksUptoSaid : Prop := codeChecksUptoRow.holds Tryd.pinned (OpenSpec.upto codeChecksSpec)

/-- 'fuguelaw01.CodeEncodes', WHERE WHAT IT READS IS OF BULK AT MOST 1048576: true; the input reads as it did. -/
def codeEncodesUptoRow : OpenClaim := { program := "yteonppgdmhakoaadoor", sum := "58c8557224c94925cefbc5a3fc4cafe40440d2081280920e9801791ba5a4d876", func := "fugue/fuguelaw01.CodeEncodes", spec := "codeEncodes", unfollowed := true, recurses := true, named := ["fugue/code.bytes"], apart := false, laid := [("fugue/code.bytes", laid_fugue_code_bytes)], narrowed := true }
def CodeEncodesUptoSaid : Prop := codeEncodesUptoRow.holds Tryd.pinned (OpenSpec.upto codeEncodesSpec)

/-- 'fuguelaw01.CodeDecodes', WHERE WHAT IT READS IS OF BULK AT MOST 1048576: true; the input reads as it did. -/
def codeDecodesUptoRow : OpenClaim := { program := "yteonppgdmhakoaadoor", sum := "58c8557224c94925cefbc5a3fc4cafe40440d2081280920e9801791ba5a4d876", func := "fugue/fuguelaw01.CodeDecodes", spec := "codeDecodes", unfollowed := true, recurses := true, named := ["fugue/code.bytes"], apart := false, laid := [("fugue/code.bytes", laid_fugue_code_bytes)], narrowed := true }
def CodeDecodesUptoSaid : Prop := codeDecodesUptoRow.holds Tryd.pinned (OpenSpec.upto codeDecodesSpec)

/-- 'fuguelaw01.CodeLists', WHERE WHAT IT READS IS OF BULK AT MOST 1048576: true; the input reads as it did. -/
def codeListsUptoRow : OpenClaim := { program := "yteonppgdmhakoaadoor", sum := "58c8557224c94925cefbc5a3fc4cafe40440d2081280920e9801791ba5a4d876", func := "fugue/fuguelaw01.CodeLists", spec := "codeLists", unfollowed := true, recurses := true, named := ["fugue/code.bytes"], apart := false, laid := [("fugue/code.bytes", laid_fugue_code_bytes)], narrowed := true }
def CodeListsUptoSaid : Prop := codeListsUptoRow.holds Tryd.pinned (OpenSpec.upto codeListsSpec)

/-- 'fuguelaw01.CodeRounds', WHERE WHAT IT READS IS OF BULK AT MOST 1048576: true; the input reads as it did. -/
def codeRoundsUptoRow : OpenClaim := { program := "yteonppgdmhakoaadoor", sum := "58c8557224c94925cefbc5a3fc4cafe40440d2081280920e9801791ba5a4d876", func := "fugue/fuguelaw01.CodeRounds", spec := "codeRounds", unfollowed := true, recurses := true, named := ["fugue/code.bytes"], apart := false, laid := [("fugue/code.bytes", laid_fugue_code_bytes)], narrowed := true }
def CodeRoundsUptoSaid : Prop := codeRoundsUptoRow.holds Tryd.pinned (OpenSpec.upto codeRoundsSpec)

/-- 'fuguelaw01.CodeCuts', WHERE WHAT IT READS IS OF BULK AT MOST 1048576: true; the input reads as it did. -/
def codeCutsUptoRow : OpenClaim := { program := "yteonppgdmhakoaadoor", sum := "58c8557224c94925cefbc5a3fc4cafe40440d2081280920e9801791ba5a4d876", func := "fugue/fuguelaw01.CodeCuts", spec := "codeCuts", unfollowed := true, recurses := true, named := ["fugue/code.bytes"], apart := false, laid := [("fugue/code.bytes", laid_fugue_code_bytes)], narrowed := true }
def CodeCutsUptoSaid : Prop := codeCutsUptoRow.holds Tryd.pinned (OpenSpec.upto codeCutsSpec)

/-- 'fuguelaw01.CodeStays', WHERE WHAT IT READS IS OF BULK AT MOST 1048576: true; the input reads as it did. -/
def codeStaysUptoRow : OpenClaim := { program := "yteonppgdmhakoaadoor", sum := "58c8557224c94925cefbc5a3fc4cafe40440d2081280920e9801791ba5a4d876", func := "fugue/fuguelaw01.CodeStays", spec := "codeStays", unfollowed := true, recurses := true, named := ["fugue/code.bytes"], apart := false, laid := [("fugue/code.bytes", laid_fugue_code_bytes)], narrowed := true }
def CodeStaysUptoSaid : Prop := codeStaysUptoRow.holds Tryd.pinned (OpenSpec.upto codeStaysSpec)

end Rows
end Go.Proofs.YteonppgdmhakoaaDoor
