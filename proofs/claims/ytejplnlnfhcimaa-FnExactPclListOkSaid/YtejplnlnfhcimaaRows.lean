/-
  No cell of these rows narrows 'for every input' (looked for: loops, veiled, ifaces, maps, wideKeys, modest, calm, conditions, laid).
  DERIVED. THE GIVEN ROWS OF THIS SEAT. 12 by the template 'for every input the law returns true; each argument reads behind the call as it read before'; 0 by the template 'total and deterministic' (their statements: YtejplnlnfhcimaaTotals.lean).
  GIVEN WITH THE SEED: the statements are not yours to turn. If you find one false, say at which input.
  Laid BY PROGRAM, IN A SANDBOX (cutbox-rows.mjs): the forced cells as the released guide's own fill.sh prints them over the translation 75b349c122d752b1… (all of the seat's roots in one cut). By AI agents, Wed Nov 11 2026. No macro, syntax, notation, axiom, sorry.
-/
import Derived.Test.YtejplnlnfhcimaaChecked
import GoSem.Claim
import GoSem.ClaimJoined
import GoSem.ClaimMapViews
import Derived.JoinedTies
import Derived.KernelRfl
namespace Go.Proofs.Ytejplnlnfhcimaa
/- THE CELL 'sum', in the pinned program and in every row, IS THE sha256 OF THE DUMP (.gsa) THAT YtejplnlnfhcimaaProg.lean LOADS. Nothing in Lean hashes anything: it is a label: what it is worth is what the hold of that sum in a sandbox is worth. -/
noncomputable def Try.pinned : Pinned := { name := "ytejplnlnfhcimaa", sum := "75b349c122d752b169f27eca9061a4b6a021bbf9f492234c746fe89b89f6dfb0", checked := Try.checked }
namespace Rows
def none {H : Type} : Left H := { results := [], args := [] }

/-- 'laws.FnExactConstants': WHATEVER THE INPUT: true; the input reads as it did. -/
def fnExactConstantsSpec : ChangeSpec := { name := "fnExactConstants", fn := fun _ => fun
  | [] => { results := [.lit (.bool true)], args := [] }
  | _ => none }
def fnExactConstantsRow : OpenClaim := { program := "ytejplnlnfhcimaa", sum := "75b349c122d752b169f27eca9061a4b6a021bbf9f492234c746fe89b89f6dfb0", func := "loop.example/landmarch/laws.FnExactConstants", spec := "fnExactConstants", apart := false }
def FnExactConstantsSaid : Prop := fnExactConstantsRow.holds Try.pinned (OpenSpec.ofChange fnExactConstantsSpec)

/-- ITS FALSE NEIGHBOUR: 'it returns false'. Refute it at one input. -/
def fnExactConstantsWrong : ChangeSpec := { name := "fnExactConstants", fn := fun _ => fun
  | [] => { results := [.lit (.bool false)], args := [] }
  | _ => none }
def FnExactConstantsWrongFalsely : Prop := fnExactConstantsRow.holds Try.pinned (OpenSpec.ofChange fnExactConstantsWrong)

/-- 'laws.FnExactPlcOk': WHATEVER THE INPUT: true; the input reads as it did. -/
def fnExactPlcOkSpec : ChangeSpec := { name := "fnExactPlcOk", fn := fun _ => fun
  | [d] => { results := [.lit (.bool true)], args := [d] }
  | _ => none }
def fnExactPlcOkRow : OpenClaim := { program := "ytejplnlnfhcimaa", sum := "75b349c122d752b169f27eca9061a4b6a021bbf9f492234c746fe89b89f6dfb0", func := "loop.example/landmarch/laws.FnExactPlcOk", spec := "fnExactPlcOk", apart := false }
def FnExactPlcOkSaid : Prop := fnExactPlcOkRow.holds Try.pinned (OpenSpec.ofChange fnExactPlcOkSpec)

/-- ITS FALSE NEIGHBOUR: 'it returns false'. Refute it at one input. -/
def fnExactPlcOkWrong : ChangeSpec := { name := "fnExactPlcOk", fn := fun _ => fun
  | [d] => { results := [.lit (.bool false)], args := [d] }
  | _ => none }
def FnExactPlcOkWrongFalsely : Prop := fnExactPlcOkRow.holds Try.pinned (OpenSpec.ofChange fnExactPlcOkWrong)

/-- 'laws.FnExactPlcCell': WHATEVER THE INPUT: true; the input reads as it did. -/
def fnExactPlcCellSpec : ChangeSpec := { name := "fnExactPlcCell", fn := fun _ => fun
  | [d1, d2] => { results := [.lit (.bool true)], args := [d1, d2] }
  | _ => none }
def fnExactPlcCellRow : OpenClaim := { program := "ytejplnlnfhcimaa", sum := "75b349c122d752b169f27eca9061a4b6a021bbf9f492234c746fe89b89f6dfb0", func := "loop.example/landmarch/laws.FnExactPlcCell", spec := "fnExactPlcCell", apart := false }
def FnExactPlcCellSaid : Prop := fnExactPlcCellRow.holds Try.pinned (OpenSpec.ofChange fnExactPlcCellSpec)

/-- ITS FALSE NEIGHBOUR: 'it returns false'. Refute it at one input. -/
def fnExactPlcCellWrong : ChangeSpec := { name := "fnExactPlcCell", fn := fun _ => fun
  | [d1, d2] => { results := [.lit (.bool false)], args := [d1, d2] }
  | _ => none }
def FnExactPlcCellWrongFalsely : Prop := fnExactPlcCellRow.holds Try.pinned (OpenSpec.ofChange fnExactPlcCellWrong)

/-- 'laws.FnExactPlcSide': WHATEVER THE INPUT: true; the input reads as it did. -/
def fnExactPlcSideSpec : ChangeSpec := { name := "fnExactPlcSide", fn := fun _ => fun
  | [d1, d2, d3] => { results := [.lit (.bool true)], args := [d1, d2, d3] }
  | _ => none }
def fnExactPlcSideRow : OpenClaim := { program := "ytejplnlnfhcimaa", sum := "75b349c122d752b169f27eca9061a4b6a021bbf9f492234c746fe89b89f6dfb0", func := "loop.example/landmarch/laws.FnExactPlcSide", spec := "fnExactPlcSide", apart := false }
def FnExactPlcSideSaid : Prop := fnExactPlcSideRow.holds Try.pinned (OpenSpec.ofChange fnExactPlcSideSpec)

/-- ITS FALSE NEIGHBOUR: 'it returns false'. Refute it at one input. -/
def fnExactPlcSideWrong : ChangeSpec := { name := "fnExactPlcSide", fn := fun _ => fun
  | [d1, d2, d3] => { results := [.lit (.bool false)], args := [d1, d2, d3] }
  | _ => none }
def FnExactPlcSideWrongFalsely : Prop := fnExactPlcSideRow.holds Try.pinned (OpenSpec.ofChange fnExactPlcSideWrong)

/-- 'laws.FnExactWlkOk': WHATEVER THE INPUT: true; the input reads as it did. -/
def fnExactWlkOkSpec : ChangeSpec := { name := "fnExactWlkOk", fn := fun _ => fun
  | [d1, d2] => { results := [.lit (.bool true)], args := [d1, d2] }
  | _ => none }
def fnExactWlkOkRow : OpenClaim := { program := "ytejplnlnfhcimaa", sum := "75b349c122d752b169f27eca9061a4b6a021bbf9f492234c746fe89b89f6dfb0", func := "loop.example/landmarch/laws.FnExactWlkOk", spec := "fnExactWlkOk", apart := false }
def FnExactWlkOkSaid : Prop := fnExactWlkOkRow.holds Try.pinned (OpenSpec.ofChange fnExactWlkOkSpec)

/-- ITS FALSE NEIGHBOUR: 'it returns false'. Refute it at one input. -/
def fnExactWlkOkWrong : ChangeSpec := { name := "fnExactWlkOk", fn := fun _ => fun
  | [d1, d2] => { results := [.lit (.bool false)], args := [d1, d2] }
  | _ => none }
def FnExactWlkOkWrongFalsely : Prop := fnExactWlkOkRow.holds Try.pinned (OpenSpec.ofChange fnExactWlkOkWrong)

/-- 'laws.FnExactOrdOk': WHATEVER THE INPUT: true; the input reads as it did. -/
def fnExactOrdOkSpec : ChangeSpec := { name := "fnExactOrdOk", fn := fun _ => fun
  | [d] => { results := [.lit (.bool true)], args := [d] }
  | _ => none }
def fnExactOrdOkRow : OpenClaim := { program := "ytejplnlnfhcimaa", sum := "75b349c122d752b169f27eca9061a4b6a021bbf9f492234c746fe89b89f6dfb0", func := "loop.example/landmarch/laws.FnExactOrdOk", spec := "fnExactOrdOk", apart := false }
def FnExactOrdOkSaid : Prop := fnExactOrdOkRow.holds Try.pinned (OpenSpec.ofChange fnExactOrdOkSpec)

/-- ITS FALSE NEIGHBOUR: 'it returns false'. Refute it at one input. -/
def fnExactOrdOkWrong : ChangeSpec := { name := "fnExactOrdOk", fn := fun _ => fun
  | [d] => { results := [.lit (.bool false)], args := [d] }
  | _ => none }
def FnExactOrdOkWrongFalsely : Prop := fnExactOrdOkRow.holds Try.pinned (OpenSpec.ofChange fnExactOrdOkWrong)

/-- 'laws.FnExactPlcEdge': WHATEVER THE INPUT: true; the input reads as it did. -/
def fnExactPlcEdgeSpec : ChangeSpec := { name := "fnExactPlcEdge", fn := fun _ => fun
  | [d1, d2, d3] => { results := [.lit (.bool true)], args := [d1, d2, d3] }
  | _ => none }
def fnExactPlcEdgeRow : OpenClaim := { program := "ytejplnlnfhcimaa", sum := "75b349c122d752b169f27eca9061a4b6a021bbf9f492234c746fe89b89f6dfb0", func := "loop.example/landmarch/laws.FnExactPlcEdge", spec := "fnExactPlcEdge", apart := false }
def FnExactPlcEdgeSaid : Prop := fnExactPlcEdgeRow.holds Try.pinned (OpenSpec.ofChange fnExactPlcEdgeSpec)

/-- ITS FALSE NEIGHBOUR: 'it returns false'. Refute it at one input. -/
def fnExactPlcEdgeWrong : ChangeSpec := { name := "fnExactPlcEdge", fn := fun _ => fun
  | [d1, d2, d3] => { results := [.lit (.bool false)], args := [d1, d2, d3] }
  | _ => none }
def FnExactPlcEdgeWrongFalsely : Prop := fnExactPlcEdgeRow.holds Try.pinned (OpenSpec.ofChange fnExactPlcEdgeWrong)

/-- 'laws.FnExactPclOk': WHATEVER THE INPUT: true; the input reads as it did. -/
def fnExactPclOkSpec : ChangeSpec := { name := "fnExactPclOk", fn := fun _ => fun
  | [d1, d2] => { results := [.lit (.bool true)], args := [d1, d2] }
  | _ => none }
def fnExactPclOkRow : OpenClaim := { program := "ytejplnlnfhcimaa", sum := "75b349c122d752b169f27eca9061a4b6a021bbf9f492234c746fe89b89f6dfb0", func := "loop.example/landmarch/laws.FnExactPclOk", spec := "fnExactPclOk", apart := false }
def FnExactPclOkSaid : Prop := fnExactPclOkRow.holds Try.pinned (OpenSpec.ofChange fnExactPclOkSpec)

/-- ITS FALSE NEIGHBOUR: 'it returns false'. Refute it at one input. -/
def fnExactPclOkWrong : ChangeSpec := { name := "fnExactPclOk", fn := fun _ => fun
  | [d1, d2] => { results := [.lit (.bool false)], args := [d1, d2] }
  | _ => none }
def FnExactPclOkWrongFalsely : Prop := fnExactPclOkRow.holds Try.pinned (OpenSpec.ofChange fnExactPclOkWrong)

/-- 'laws.FnExactGstOk': WHATEVER THE INPUT: true; the input reads as it did. -/
def fnExactGstOkSpec : ChangeSpec := { name := "fnExactGstOk", fn := fun _ => fun
  | [d1, d2] => { results := [.lit (.bool true)], args := [d1, d2] }
  | _ => none }
def fnExactGstOkRow : OpenClaim := { program := "ytejplnlnfhcimaa", sum := "75b349c122d752b169f27eca9061a4b6a021bbf9f492234c746fe89b89f6dfb0", func := "loop.example/landmarch/laws.FnExactGstOk", spec := "fnExactGstOk", apart := false }
def FnExactGstOkSaid : Prop := fnExactGstOkRow.holds Try.pinned (OpenSpec.ofChange fnExactGstOkSpec)

/-- ITS FALSE NEIGHBOUR: 'it returns false'. Refute it at one input. -/
def fnExactGstOkWrong : ChangeSpec := { name := "fnExactGstOk", fn := fun _ => fun
  | [d1, d2] => { results := [.lit (.bool false)], args := [d1, d2] }
  | _ => none }
def FnExactGstOkWrongFalsely : Prop := fnExactGstOkRow.holds Try.pinned (OpenSpec.ofChange fnExactGstOkWrong)

/-- 'laws.FnExactLogOk': WHATEVER THE INPUT: true; the input reads as it did. -/
def fnExactLogOkSpec : ChangeSpec := { name := "fnExactLogOk", fn := fun _ => fun
  | [d1, d2] => { results := [.lit (.bool true)], args := [d1, d2] }
  | _ => none }
def fnExactLogOkRow : OpenClaim := { program := "ytejplnlnfhcimaa", sum := "75b349c122d752b169f27eca9061a4b6a021bbf9f492234c746fe89b89f6dfb0", func := "loop.example/landmarch/laws.FnExactLogOk", spec := "fnExactLogOk", apart := false }
def FnExactLogOkSaid : Prop := fnExactLogOkRow.holds Try.pinned (OpenSpec.ofChange fnExactLogOkSpec)

/-- ITS FALSE NEIGHBOUR: 'it returns false'. Refute it at one input. -/
def fnExactLogOkWrong : ChangeSpec := { name := "fnExactLogOk", fn := fun _ => fun
  | [d1, d2] => { results := [.lit (.bool false)], args := [d1, d2] }
  | _ => none }
def FnExactLogOkWrongFalsely : Prop := fnExactLogOkRow.holds Try.pinned (OpenSpec.ofChange fnExactLogOkWrong)

/-- 'laws.FnExactMsgOk': WHATEVER THE INPUT: true; the input reads as it did. -/
def fnExactMsgOkSpec : ChangeSpec := { name := "fnExactMsgOk", fn := fun _ => fun
  | [d1, d2, d3] => { results := [.lit (.bool true)], args := [d1, d2, d3] }
  | _ => none }
def fnExactMsgOkRow : OpenClaim := { program := "ytejplnlnfhcimaa", sum := "75b349c122d752b169f27eca9061a4b6a021bbf9f492234c746fe89b89f6dfb0", func := "loop.example/landmarch/laws.FnExactMsgOk", spec := "fnExactMsgOk", apart := false }
def FnExactMsgOkSaid : Prop := fnExactMsgOkRow.holds Try.pinned (OpenSpec.ofChange fnExactMsgOkSpec)

/-- ITS FALSE NEIGHBOUR: 'it returns false'. Refute it at one input. -/
def fnExactMsgOkWrong : ChangeSpec := { name := "fnExactMsgOk", fn := fun _ => fun
  | [d1, d2, d3] => { results := [.lit (.bool false)], args := [d1, d2, d3] }
  | _ => none }
def FnExactMsgOkWrongFalsely : Prop := fnExactMsgOkRow.holds Try.pinned (OpenSpec.ofChange fnExactMsgOkWrong)

/-- 'laws.FnExactPclListOk': WHATEVER THE INPUT: true; the input reads as it did. -/
def fnExactPclListOkSpec : ChangeSpec := { name := "fnExactPclListOk", fn := fun _ => fun
  | [d1, d2, d3] => { results := [.lit (.bool true)], args := [d1, d2, d3] }
  | _ => none }
def fnExactPclListOkRow : OpenClaim := { program := "ytejplnlnfhcimaa", sum := "75b349c122d752b169f27eca9061a4b6a021bbf9f492234c746fe89b89f6dfb0", func := "loop.example/landmarch/laws.FnExactPclListOk", spec := "fnExactPclListOk", apart := false }
def FnExactPclListOkSaid : Prop := fnExactPclListOkRow.holds Try.pinned (OpenSpec.ofChange fnExactPclListOkSpec)

/-- ITS FALSE NEIGHBOUR: 'it returns false'. Refute it at one input. -/
def fnExactPclListOkWrong : ChangeSpec := { name := "fnExactPclListOk", fn := fun _ => fun
  | [d1, d2, d3] => { results := [.lit (.bool false)], args := [d1, d2, d3] }
  | _ => none }
def FnExactPclListOkWrongFalsely : Prop := fnExactPclListOkRow.holds Try.pinned (OpenSpec.ofChange fnExactPclListOkWrong)

/- THE SECOND FORM. 'bulk': how many values and letters a reading holds, each counted each time it is reached (what is shared counts as often as it is met; a slice's spare places count too). A statement '..UptoSaid' is the law's where the arguments, and the package variables that the reading takes, are together of bulk at most 1048576: NARROWER than '..Said'. Prove '..Said' where nothing that the law and all that it calls make is longer than what came in: it says more and counts as full. Else prove '..UptoSaid'. A law counts once. -/
mutual
def uptoBulk {H : Type} : DataW H → Nat
  | .lit (.string bytes) => bytes.length + 1
  | .lit _ => 1
  | .nil => 1
  | .ptr d => uptoBulk d + 1
  | .slice elems spare => uptoBulkAll elems + uptoBulkAll spare + 1
  | .agg parts => uptoBulkAll parts + 1
  | .iface _ d => uptoBulk d + 1
  | .map entries => uptoBulkEntries entries + 1
  | .held _ => 1
def uptoBulkAll {H : Type} : List (DataW H) → Nat
  | [] => 0
  | d :: r => uptoBulk d + uptoBulkAll r
def uptoBulkEntries {H : Type} : List (Lit × DataW H) → Nat
  | [] => 0
  | x :: r => uptoBulkEntry x + uptoBulkEntries r
def uptoBulkEntry {H : Type} : Lit × DataW H → Nat
  | (.string bytes, d) => bytes.length + uptoBulk d + 1
  | (_, d) => uptoBulk d + 1
 end
def uptoSmall : (H : Type) → List (DataW H) → Bool := fun _ ds => decide (uptoBulkAll ds ≤ 1048576)
def OpenSpec.upto (s : _root_.Go.ChangeSpec) : _root_.Go.OpenSpec := { _root_.Go.OpenSpec.ofChange s with cond := some uptoSmall }

/-- 'laws.FnExactConstants', WHERE WHAT IT READS IS OF BULK AT MOST 1048576: true; the input reads as it did. -/
def fnExactConstantsUptoRow : OpenClaim := { program := "ytejplnlnfhcimaa", sum := "75b349c122d752b169f27eca9061a4b6a021bbf9f492234c746fe89b89f6dfb0", func := "loop.example/landmarch/laws.FnExactConstants", spec := "fnExactConstants", apart := false, narrowed := true }
def FnExactConstantsUptoSaid : Prop := fnExactConstantsUptoRow.holds Try.pinned (OpenSpec.upto fnExactConstantsSpec)

/-- 'laws.FnExactPlcOk', WHERE WHAT IT READS IS OF BULK AT MOST 1048576: true; the input reads as it did. -/
def fnExactPlcOkUptoRow : OpenClaim := { program := "ytejplnlnfhcimaa", sum := "75b349c122d752b169f27eca9061a4b6a021bbf9f492234c746fe89b89f6dfb0", func := "loop.example/landmarch/laws.FnExactPlcOk", spec := "fnExactPlcOk", apart := false, narrowed := true }
def FnExactPlcOkUptoSaid : Prop := fnExactPlcOkUptoRow.holds Try.pinned (OpenSpec.upto fnExactPlcOkSpec)

/-- 'laws.FnExactPlcCell', WHERE WHAT IT READS IS OF BULK AT MOST 1048576: true; the input reads as it did. -/
def fnExactPlcCellUptoRow : OpenClaim := { program := "ytejplnlnfhcimaa", sum := "75b349c122d752b169f27eca9061a4b6a021bbf9f492234c746fe89b89f6dfb0", func := "loop.example/landmarch/laws.FnExactPlcCell", spec := "fnExactPlcCell", apart := false, narrowed := true }
def FnExactPlcCellUptoSaid : Prop := fnExactPlcCellUptoRow.holds Try.pinned (OpenSpec.upto fnExactPlcCellSpec)

/-- 'laws.FnExactPlcSide', WHERE WHAT IT READS IS OF BULK AT MOST 1048576: true; the input reads as it did. -/
def fnExactPlcSideUptoRow : OpenClaim := { program := "ytejplnlnfhcimaa", sum := "75b349c122d752b169f27eca9061a4b6a021bbf9f492234c746fe89b89f6dfb0", func := "loop.example/landmarch/laws.FnExactPlcSide", spec := "fnExactPlcSide", apart := false, narrowed := true }
def FnExactPlcSideUptoSaid : Prop := fnExactPlcSideUptoRow.holds Try.pinned (OpenSpec.upto fnExactPlcSideSpec)

/-- 'laws.FnExactWlkOk', WHERE WHAT IT READS IS OF BULK AT MOST 1048576: true; the input reads as it did. -/
def fnExactWlkOkUptoRow : OpenClaim := { program := "ytejplnlnfhcimaa", sum := "75b349c122d752b169f27eca9061a4b6a021bbf9f492234c746fe89b89f6dfb0", func := "loop.example/landmarch/laws.FnExactWlkOk", spec := "fnExactWlkOk", apart := false, narrowed := true }
def FnExactWlkOkUptoSaid : Prop := fnExactWlkOkUptoRow.holds Try.pinned (OpenSpec.upto fnExactWlkOkSpec)

/-- 'laws.FnExactOrdOk', WHERE WHAT IT READS IS OF BULK AT MOST 1048576: true; the input reads as it did. -/
def fnExactOrdOkUptoRow : OpenClaim := { program := "ytejplnlnfhcimaa", sum := "75b349c122d752b169f27eca9061a4b6a021bbf9f492234c746fe89b89f6dfb0", func := "loop.example/landmarch/laws.FnExactOrdOk", spec := "fnExactOrdOk", apart := false, narrowed := true }
def FnExactOrdOkUptoSaid : Prop := fnExactOrdOkUptoRow.holds Try.pinned (OpenSpec.upto fnExactOrdOkSpec)

/-- 'laws.FnExactPlcEdge', WHERE WHAT IT READS IS OF BULK AT MOST 1048576: true; the input reads as it did. -/
def fnExactPlcEdgeUptoRow : OpenClaim := { program := "ytejplnlnfhcimaa", sum := "75b349c122d752b169f27eca9061a4b6a021bbf9f492234c746fe89b89f6dfb0", func := "loop.example/landmarch/laws.FnExactPlcEdge", spec := "fnExactPlcEdge", apart := false, narrowed := true }
def FnExactPlcEdgeUptoSaid : Prop := fnExactPlcEdgeUptoRow.holds Try.pinned (OpenSpec.upto fnExactPlcEdgeSpec)

/-- 'laws.FnExactPclOk', WHERE WHAT IT READS IS OF BULK AT MOST 1048576: true; the input reads as it did. -/
def fnExactPclOkUptoRow : OpenClaim := { program := "ytejplnlnfhcimaa", sum := "75b349c122d752b169f27eca9061a4b6a021bbf9f492234c746fe89b89f6dfb0", func := "loop.example/landmarch/laws.FnExactPclOk", spec := "fnExactPclOk", apart := false, narrowed := true }
def FnExactPclOkUptoSaid : Prop := fnExactPclOkUptoRow.holds Try.pinned (OpenSpec.upto fnExactPclOkSpec)

/-- 'laws.FnExactGstOk', WHERE WHAT IT READS IS OF BULK AT MOST 1048576: true; the input reads as it did. -/
def fnExactGstOkUptoRow : OpenClaim := { program := "ytejplnlnfhcimaa", sum := "75b349c122d752b169f27eca9061a4b6a021bbf9f492234c746fe89b89f6dfb0", func := "loop.example/landmarch/laws.FnExactGstOk", spec := "fnExactGstOk", apart := false, narrowed := true }
def FnExactGstOkUptoSaid : Prop := fnExactGstOkUptoRow.holds Try.pinned (OpenSpec.upto fnExactGstOkSpec)

/-- 'laws.FnExactLogOk', WHERE WHAT IT READS IS OF BULK AT MOST 1048576: true; the input reads as it did. -/
def fnExactLogOkUptoRow : OpenClaim := { program := "ytejplnlnfhcimaa", sum := "75b349c122d752b169f27eca9061a4b6a021bbf9f492234c746fe89b89f6dfb0", func := "loop.example/landmarch/laws.FnExactLogOk", spec := "fnExactLogOk", apart := false, narrowed := true }
def FnExactLogOkUptoSaid : Prop := fnExactLogOkUptoRow.holds Try.pinned (OpenSpec.upto fnExactLogOkSpec)

/-- 'laws.FnExactMsgOk', WHERE WHAT IT READS IS OF BULK AT MOST 1048576: true; the input reads as it did. -/
def fnExactMsgOkUptoRow : OpenClaim := { program := "ytejplnlnfhcimaa", sum := "75b349c122d752b169f27eca9061a4b6a021bbf9f492234c746fe89b89f6dfb0", func := "loop.example/landmarch/laws.FnExactMsgOk", spec := "fnExactMsgOk", apart := false, narrowed := true }
def FnExactMsgOkUptoSaid : Prop := fnExactMsgOkUptoRow.holds Try.pinned (OpenSpec.upto fnExactMsgOkSpec)

/-- 'laws.FnExactPclListOk', WHERE WHAT IT READS IS OF BULK AT MOST 1048576: true; the input reads as it did. -/
def fnExactPclListOkUptoRow : OpenClaim := { program := "ytejplnlnfhcimaa", sum := "75b349c122d752b169f27eca9061a4b6a021bbf9f492234c746fe89b89f6dfb0", func := "loop.example/landmarch/laws.FnExactPclListOk", spec := "fnExactPclListOk", apart := false, narrowed := true }
def FnExactPclListOkUptoSaid : Prop := fnExactPclListOkUptoRow.holds Try.pinned (OpenSpec.upto fnExactPclListOkSpec)

end Rows
end Go.Proofs.Ytejplnlnfhcimaa
