/-
  No cell of these rows narrows 'for every input' (looked for: loops, veiled, ifaces, maps, wideKeys, modest, calm, conditions, laid).
  DERIVED. THE GIVEN ROWS OF THIS SEAT. 7 by the template 'for every input the law returns true; each argument reads behind the call as it read before'; 0 by the template 'total and deterministic' (their statements: YtmjdiiockddalaaTotals.lean).
  GIVEN WITH THE SEED: the statements are not yours to turn. If you find one false, say at which input.
  Laid BY PROGRAM, IN A SANDBOX (cutbox-rows.mjs): the forced cells as the released guide's own fill.sh prints them over the translation 63f8b0c4d1a3e991… (all of the seat's roots in one cut). By AI agents, Wed Nov 11 2026. No macro, syntax, notation, axiom, sorry.
-/
import Derived.Test.YtmjdiiockddalaaChecked
import GoSem.Claim
import GoSem.ClaimJoined
import GoSem.ClaimMapViews
import Derived.JoinedTies
import Derived.KernelRfl
namespace Go.Proofs.Ytmjdiiockddalaa
/- THE CELL 'sum', in the pinned program and in every row, IS THE sha256 OF THE DUMP (.gsa) THAT YtmjdiiockddalaaProg.lean LOADS. Nothing in Lean hashes anything: it is a label: what it is worth is what the hold of that sum in a sandbox is worth. -/
noncomputable def Try.pinned : Pinned := { name := "ytmjdiiockddalaa", sum := "63f8b0c4d1a3e99118e35cb4dc226701a8a473e48e787b23cb643141fd66d5e0", checked := Try.checked }
namespace Rows
def none {H : Type} : Left H := { results := [], args := [] }

/-- 'fuguelaw06.WeighFrom': WHATEVER THE INPUT: true; the input reads as it did. -/
def weighFromSpec : ChangeSpec := { name := "weighFrom", fn := fun _ => fun
  | [d] => { results := [.lit (.bool true)], args := [d] }
  | _ => none }
def weighFromRow : OpenClaim := { program := "ytmjdiiockddalaa", sum := "63f8b0c4d1a3e99118e35cb4dc226701a8a473e48e787b23cb643141fd66d5e0", func := "fugue/fuguelaw06.WeighFrom", spec := "weighFrom", apart := false }
def WeighFromSaid : Prop := weighFromRow.holds Try.pinned (OpenSpec.ofChange weighFromSpec)

/-- ITS FALSE NEIGHBOUR: 'it returns false'. Refute it at one input. -/
def weighFromWrong : ChangeSpec := { name := "weighFrom", fn := fun _ => fun
  | [d] => { results := [.lit (.bool false)], args := [d] }
  | _ => none }
def WeighFromWrongFalsely : Prop := weighFromRow.holds Try.pinned (OpenSpec.ofChange weighFromWrong)

/-- 'fuguelaw06.WeighWays': WHATEVER THE INPUT: true; the input reads as it did. -/
def weighWaysSpec : ChangeSpec := { name := "weighWays", fn := fun _ => fun
  | [d1, d2] => { results := [.lit (.bool true)], args := [d1, d2] }
  | _ => none }
def weighWaysRow : OpenClaim := { program := "ytmjdiiockddalaa", sum := "63f8b0c4d1a3e99118e35cb4dc226701a8a473e48e787b23cb643141fd66d5e0", func := "fugue/fuguelaw06.WeighWays", spec := "weighWays", apart := false }
def WeighWaysSaid : Prop := weighWaysRow.holds Try.pinned (OpenSpec.ofChange weighWaysSpec)

/-- ITS FALSE NEIGHBOUR: 'it returns false'. Refute it at one input. -/
def weighWaysWrong : ChangeSpec := { name := "weighWays", fn := fun _ => fun
  | [d1, d2] => { results := [.lit (.bool false)], args := [d1, d2] }
  | _ => none }
def WeighWaysWrongFalsely : Prop := weighWaysRow.holds Try.pinned (OpenSpec.ofChange weighWaysWrong)

/-- 'fuguelaw06.WeighLeast': WHATEVER THE INPUT: true; the input reads as it did. -/
def weighLeastSpec : ChangeSpec := { name := "weighLeast", fn := fun _ => fun
  | [d] => { results := [.lit (.bool true)], args := [d] }
  | _ => none }
def weighLeastRow : OpenClaim := { program := "ytmjdiiockddalaa", sum := "63f8b0c4d1a3e99118e35cb4dc226701a8a473e48e787b23cb643141fd66d5e0", func := "fugue/fuguelaw06.WeighLeast", spec := "weighLeast", apart := false }
def WeighLeastSaid : Prop := weighLeastRow.holds Try.pinned (OpenSpec.ofChange weighLeastSpec)

/-- ITS FALSE NEIGHBOUR: 'it returns false'. Refute it at one input. -/
def weighLeastWrong : ChangeSpec := { name := "weighLeast", fn := fun _ => fun
  | [d] => { results := [.lit (.bool false)], args := [d] }
  | _ => none }
def WeighLeastWrongFalsely : Prop := weighLeastRow.holds Try.pinned (OpenSpec.ofChange weighLeastWrong)

/-- 'fuguelaw06.WeighChain': WHATEVER THE INPUT: true; the input reads as it did. -/
def weighChainSpec : ChangeSpec := { name := "weighChain", fn := fun _ => fun
  | [d] => { results := [.lit (.bool true)], args := [d] }
  | _ => none }
def weighChainRow : OpenClaim := { program := "ytmjdiiockddalaa", sum := "63f8b0c4d1a3e99118e35cb4dc226701a8a473e48e787b23cb643141fd66d5e0", func := "fugue/fuguelaw06.WeighChain", spec := "weighChain", apart := false }
def WeighChainSaid : Prop := weighChainRow.holds Try.pinned (OpenSpec.ofChange weighChainSpec)

/-- ITS FALSE NEIGHBOUR: 'it returns false'. Refute it at one input. -/
def weighChainWrong : ChangeSpec := { name := "weighChain", fn := fun _ => fun
  | [d] => { results := [.lit (.bool false)], args := [d] }
  | _ => none }
def WeighChainWrongFalsely : Prop := weighChainRow.holds Try.pinned (OpenSpec.ofChange weighChainWrong)

/-- 'fuguelaw06.WeighRaises': WHATEVER THE INPUT: true; the input reads as it did. -/
def weighRaisesSpec : ChangeSpec := { name := "weighRaises", fn := fun _ => fun
  | [d1, d2, d3] => { results := [.lit (.bool true)], args := [d1, d2, d3] }
  | _ => none }
def weighRaisesRow : OpenClaim := { program := "ytmjdiiockddalaa", sum := "63f8b0c4d1a3e99118e35cb4dc226701a8a473e48e787b23cb643141fd66d5e0", func := "fugue/fuguelaw06.WeighRaises", spec := "weighRaises", apart := false }
def WeighRaisesSaid : Prop := weighRaisesRow.holds Try.pinned (OpenSpec.ofChange weighRaisesSpec)

/-- ITS FALSE NEIGHBOUR: 'it returns false'. Refute it at one input. -/
def weighRaisesWrong : ChangeSpec := { name := "weighRaises", fn := fun _ => fun
  | [d1, d2, d3] => { results := [.lit (.bool false)], args := [d1, d2, d3] }
  | _ => none }
def WeighRaisesWrongFalsely : Prop := weighRaisesRow.holds Try.pinned (OpenSpec.ofChange weighRaisesWrong)

/-- 'fuguelaw06.WeighPlus': WHATEVER THE INPUT: true; the input reads as it did. -/
def weighPlusSpec : ChangeSpec := { name := "weighPlus", fn := fun _ => fun
  | [d1, d2, d3] => { results := [.lit (.bool true)], args := [d1, d2, d3] }
  | _ => none }
def weighPlusRow : OpenClaim := { program := "ytmjdiiockddalaa", sum := "63f8b0c4d1a3e99118e35cb4dc226701a8a473e48e787b23cb643141fd66d5e0", func := "fugue/fuguelaw06.WeighPlus", spec := "weighPlus", apart := false }
def WeighPlusSaid : Prop := weighPlusRow.holds Try.pinned (OpenSpec.ofChange weighPlusSpec)

/-- ITS FALSE NEIGHBOUR: 'it returns false'. Refute it at one input. -/
def weighPlusWrong : ChangeSpec := { name := "weighPlus", fn := fun _ => fun
  | [d1, d2, d3] => { results := [.lit (.bool false)], args := [d1, d2, d3] }
  | _ => none }
def WeighPlusWrongFalsely : Prop := weighPlusRow.holds Try.pinned (OpenSpec.ofChange weighPlusWrong)

/-- 'fuguelaw06.WeighOrders': WHATEVER THE INPUT: true; the input reads as it did. -/
def weighOrdersSpec : ChangeSpec := { name := "weighOrders", fn := fun _ => fun
  | [d1, d2, d3] => { results := [.lit (.bool true)], args := [d1, d2, d3] }
  | _ => none }
def weighOrdersRow : OpenClaim := { program := "ytmjdiiockddalaa", sum := "63f8b0c4d1a3e99118e35cb4dc226701a8a473e48e787b23cb643141fd66d5e0", func := "fugue/fuguelaw06.WeighOrders", spec := "weighOrders", apart := false }
def WeighOrdersSaid : Prop := weighOrdersRow.holds Try.pinned (OpenSpec.ofChange weighOrdersSpec)

/-- ITS FALSE NEIGHBOUR: 'it returns false'. Refute it at one input. -/
def weighOrdersWrong : ChangeSpec := { name := "weighOrders", fn := fun _ => fun
  | [d1, d2, d3] => { results := [.lit (.bool false)], args := [d1, d2, d3] }
  | _ => none }
def WeighOrdersWrongFalsely : Prop := weighOrdersRow.holds Try.pinned (OpenSpec.ofChange weighOrdersWrong)

/- THE SECOND FORM. 'bulk': how many values and letters a reading holds, each counted each time it is reached (what is shared counts as often as it is met; a slice's spare places count too). A statement '..UptoSaid' is the law's where the arguments, and the package variables that the reading takes, are together of bulk at most 1048576: NARROWER than '..Said'. Prove '..Said' where nothing that the law and all that it calls make is longer than what came in: it says more and counts as full. Else prove '..UptoSaid'. A law counts once. -/
mutual
def uptoBulk {H : Type} : DataW H → Nat
  | .lit (.string bytes) => bytes.length + 1
  | .lit _ => 1
  | .nil => 1
  | .ptr d => uptoBulk d + 1
  | .slice elems spare => uptoBulkAll elems + uptoBulkAll spare + 1
  | .agg parts => uptoBulkAll parts + 1
  | .iface _ d => uptoBulk d + 1
  | .map entries => uptoBulkEntries entries + 1
  | .held _ => 1
def uptoBulkAll {H : Type} : List (DataW H) → Nat
  | [] => 0
  | d :: r => uptoBulk d + uptoBulkAll r
def uptoBulkEntries {H : Type} : List (Lit × DataW H) → Nat
  | [] => 0
  | x :: r => uptoBulkEntry x + uptoBulkEntries r
def uptoBulkEntry {H : Type} : Lit × DataW H → Nat
  | (.string bytes, d) => bytes.length + uptoBulk d + 1
  | (_, d) => uptoBulk d + 1
 end
def uptoSmall : (H : Type) → List (DataW H) → Bool := fun _ ds => decide (uptoBulkAll ds ≤ 1048576)
def OpenSpec.upto (s : _root_.Go.ChangeSpec) : _root_.Go.OpenSpec := { _root_.Go.OpenSpec.ofChange s with cond := some uptoSmall }

/-- 'fuguelaw06.WeighFrom', WHERE WHAT IT READS IS OF BULK AT MOST 1048576: true; the input reads as it did. -/
def weighFromUptoRow : OpenClaim := { program := "ytmjdiiockddalaa", sum := "63f8b0c4d1a3e99118e35cb4dc226701a8a473e48e787b23cb643141fd66d5e0", func := "fugue/fuguelaw06.WeighFrom", spec := "weighFrom", apart := false, narrowed := true }
def WeighFromUptoSaid : Prop := weighFromUptoRow.holds Try.pinned (OpenSpec.upto weighFromSpec)

/-- 'fuguelaw06.WeighWays', WHERE WHAT IT READS IS OF BULK AT MOST 1048576: true; the input reads as it did. -/
def weighWaysUptoRow : OpenClaim := { program := "ytmjdiiockddalaa", sum := "63f8b0c4d1a3e99118e35cb4dc226701a8a473e48e787b23cb643141fd66d5e0", func := "fugue/fuguelaw06.WeighWays", spec := "weighWays", apart := false, narrowed := true }
def WeighWaysUptoSaid : Prop := weighWaysUptoRow.holds Try.pinned (OpenSpec.upto weighWaysSpec)

/-- 'fuguelaw06.WeighLeast', WHERE WHAT IT READS IS OF BULK AT MOST 1048576: true; the input reads as it did. -/
def weighLeastUptoRow : OpenClaim := { program := "ytmjdiiockddalaa", sum := "63f8b0c4d1a3e99118e35cb4dc226701a8a473e48e787b23cb643141fd66d5e0", func := "fugue/fuguelaw06.WeighLeast", spec := "weighLeast", apart := false, narrowed := true }
def WeighLeastUptoSaid : Prop := weighLeastUptoRow.holds Try.pinned (OpenSpec.upto weighLeastSpec)

/-- 'fuguelaw06.WeighChain', WHERE WHAT IT READS IS OF BULK AT MOST 1048576: true; the input reads as it did. -/
def weighChainUptoRow : OpenClaim := { program := "ytmjdiiockddalaa", sum := "63f8b0c4d1a3e99118e35cb4dc226701a8a473e48e787b23cb643141fd66d5e0", func := "fugue/fuguelaw06.WeighChain", spec := "weighChain", apart := false, narrowed := true }
def WeighChainUptoSaid : Prop := weighChainUptoRow.holds Try.pinned (OpenSpec.upto weighChainSpec)

/-- 'fuguelaw06.WeighRaises', WHERE WHAT IT READS IS OF BULK AT MOST 1048576: true; the input reads as it did. -/
def weighRaisesUptoRow : OpenClaim := { program := "ytmjdiiockddalaa", sum := "63f8b0c4d1a3e99118e35cb4dc226701a8a473e48e787b23cb643141fd66d5e0", func := "fugue/fuguelaw06.WeighRaises", spec := "weighRaises", apart := false, narrowed := true }
def WeighRaisesUptoSaid : Prop := weighRaisesUptoRow.holds Try.pinned (OpenSpec.upto weighRaisesSpec)

/-- 'fuguelaw06.WeighPlus', WHERE WHAT IT READS IS OF BULK AT MOST 1048576: true; the input reads as it did. -/
def weighPlusUptoRow : OpenClaim := { program := "ytmjdiiockddalaa", sum := "63f8b0c4d1a3e99118e35cb4dc226701a8a473e48e787b23cb643141fd66d5e0", func := "fugue/fuguelaw06.WeighPlus", spec := "weighPlus", apart := false, narrowed := true }
def WeighPlusUptoSaid : Prop := weighPlusUptoRow.holds Try.pinned (OpenSpec.upto weighPlusSpec)

/-- 'fuguelaw06.WeighOrders', WHERE WHAT IT READS IS OF BULK AT MOST 1048576: true; the input reads as it did. -/
def weighOrdersUptoRow : OpenClaim := { program := "ytmjdiiockddalaa", sum := "63f8b0c4d1a3e99118e35cb4dc226701a8a473e48e787b23cb643141fd66d5e0", func := "fugue/fuguelaw06.WeighOrders", spec := "weighOrders", apart := false, narrowed := true }
def WeighOrdersUptoSaid : Prop := weighOrdersUptoRow.holds Try.pinned (OpenSpec.upto weighOrdersSpec)

end Rows
end Go.Proofs.Ytmjdiiockddalaa
