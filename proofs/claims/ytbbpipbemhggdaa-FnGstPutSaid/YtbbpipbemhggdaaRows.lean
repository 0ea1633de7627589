/-
  No cell of these rows narrows 'for every input' (looked for: loops, veiled, ifaces, maps, wideKeys, modest, calm, conditions, laid).
  DERIVED. THE GIVEN ROWS OF THIS SEAT. 7 by the template 'for every input the law returns true; each argument reads behind the call as it read before'; 0 by the template 'total and deterministic' (their statements: YtbbpipbemhggdaaTotals.lean).
  GIVEN WITH THE SEED: the statements are not yours to turn. If you find one false, say at which input.
  Laid BY PROGRAM, IN A SANDBOX (cutbox-rows.mjs): the forced cells as the released guide's own fill.sh prints them over the translation 3420ea841d4a044a… (all of the seat's roots in one cut). By AI agents, Wed Nov 11 2026. No macro, syntax, notation, axiom, sorry.
-/
import Derived.Test.YtbbpipbemhggdaaChecked
import GoSem.Claim
import GoSem.ClaimJoined
import GoSem.ClaimMapViews
import Derived.JoinedTies
import Derived.KernelRfl
namespace Go.Proofs.Ytbbpipbemhggdaa
/- THE CELL 'sum', in the pinned program and in every row, IS THE sha256 OF THE DUMP (.gsa) THAT YtbbpipbemhggdaaProg.lean LOADS. Nothing in Lean hashes anything: it is a label: what it is worth is what the hold of that sum in a sandbox is worth. -/
noncomputable def Try.pinned : Pinned := { name := "ytbbpipbemhggdaa", sum := "3420ea841d4a044a2b045b2bf32183dea2edf6b60430f82a2627595cc111cb6b", checked := Try.checked }
namespace Rows
def none {H : Type} : Left H := { results := [], args := [] }

/-- 'laws.FnPlcSides': WHATEVER THE INPUT: true; the input reads as it did. -/
def fnPlcSidesSpec : ChangeSpec := { name := "fnPlcSides", fn := fun _ => fun
  | [d] => { results := [.lit (.bool true)], args := [d] }
  | _ => none }
def fnPlcSidesRow : OpenClaim := { program := "ytbbpipbemhggdaa", sum := "3420ea841d4a044a2b045b2bf32183dea2edf6b60430f82a2627595cc111cb6b", func := "loop.example/landmarch/laws.FnPlcSides", spec := "fnPlcSides", apart := false }
def FnPlcSidesSaid : Prop := fnPlcSidesRow.holds Try.pinned (OpenSpec.ofChange fnPlcSidesSpec)

/-- ITS FALSE NEIGHBOUR: 'it returns false'. Refute it at one input. -/
def fnPlcSidesWrong : ChangeSpec := { name := "fnPlcSides", fn := fun _ => fun
  | [d] => { results := [.lit (.bool false)], args := [d] }
  | _ => none }
def FnPlcSidesWrongFalsely : Prop := fnPlcSidesRow.holds Try.pinned (OpenSpec.ofChange fnPlcSidesWrong)

/-- 'laws.FnPlcEdge': WHATEVER THE INPUT: true; the input reads as it did. -/
def fnPlcEdgeSpec : ChangeSpec := { name := "fnPlcEdge", fn := fun _ => fun
  | [d] => { results := [.lit (.bool true)], args := [d] }
  | _ => none }
def fnPlcEdgeRow : OpenClaim := { program := "ytbbpipbemhggdaa", sum := "3420ea841d4a044a2b045b2bf32183dea2edf6b60430f82a2627595cc111cb6b", func := "loop.example/landmarch/laws.FnPlcEdge", spec := "fnPlcEdge", apart := false }
def FnPlcEdgeSaid : Prop := fnPlcEdgeRow.holds Try.pinned (OpenSpec.ofChange fnPlcEdgeSpec)

/-- ITS FALSE NEIGHBOUR: 'it returns false'. Refute it at one input. -/
def fnPlcEdgeWrong : ChangeSpec := { name := "fnPlcEdge", fn := fun _ => fun
  | [d] => { results := [.lit (.bool false)], args := [d] }
  | _ => none }
def FnPlcEdgeWrongFalsely : Prop := fnPlcEdgeRow.holds Try.pinned (OpenSpec.ofChange fnPlcEdgeWrong)

/-- 'laws.FnArbGrant': WHATEVER THE INPUT: true; the input reads as it did. -/
def fnArbGrantSpec : ChangeSpec := { name := "fnArbGrant", fn := fun _ => fun
  | [d] => { results := [.lit (.bool true)], args := [d] }
  | _ => none }
def fnArbGrantRow : OpenClaim := { program := "ytbbpipbemhggdaa", sum := "3420ea841d4a044a2b045b2bf32183dea2edf6b60430f82a2627595cc111cb6b", func := "loop.example/landmarch/laws.FnArbGrant", spec := "fnArbGrant", apart := false }
def FnArbGrantSaid : Prop := fnArbGrantRow.holds Try.pinned (OpenSpec.ofChange fnArbGrantSpec)

/-- ITS FALSE NEIGHBOUR: 'it returns false'. Refute it at one input. -/
def fnArbGrantWrong : ChangeSpec := { name := "fnArbGrant", fn := fun _ => fun
  | [d] => { results := [.lit (.bool false)], args := [d] }
  | _ => none }
def FnArbGrantWrongFalsely : Prop := fnArbGrantRow.holds Try.pinned (OpenSpec.ofChange fnArbGrantWrong)

/-- 'laws.FnPclFrom': WHATEVER THE INPUT: true; the input reads as it did. -/
def fnPclFromSpec : ChangeSpec := { name := "fnPclFrom", fn := fun _ => fun
  | [d] => { results := [.lit (.bool true)], args := [d] }
  | _ => none }
def fnPclFromRow : OpenClaim := { program := "ytbbpipbemhggdaa", sum := "3420ea841d4a044a2b045b2bf32183dea2edf6b60430f82a2627595cc111cb6b", func := "loop.example/landmarch/laws.FnPclFrom", spec := "fnPclFrom", apart := false }
def FnPclFromSaid : Prop := fnPclFromRow.holds Try.pinned (OpenSpec.ofChange fnPclFromSpec)

/-- ITS FALSE NEIGHBOUR: 'it returns false'. Refute it at one input. -/
def fnPclFromWrong : ChangeSpec := { name := "fnPclFrom", fn := fun _ => fun
  | [d] => { results := [.lit (.bool false)], args := [d] }
  | _ => none }
def FnPclFromWrongFalsely : Prop := fnPclFromRow.holds Try.pinned (OpenSpec.ofChange fnPclFromWrong)

/-- 'laws.FnWlkList': WHATEVER THE INPUT: true; the input reads as it did. -/
def fnWlkListSpec : ChangeSpec := { name := "fnWlkList", fn := fun _ => fun
  | [d] => { results := [.lit (.bool true)], args := [d] }
  | _ => none }
def fnWlkListRow : OpenClaim := { program := "ytbbpipbemhggdaa", sum := "3420ea841d4a044a2b045b2bf32183dea2edf6b60430f82a2627595cc111cb6b", func := "loop.example/landmarch/laws.FnWlkList", spec := "fnWlkList", inPlace := ["slices.overlaps[loop.example/landmarch/impl.WlkWalker]"], unfollowed := true, recurses := true, apart := false }
def FnWlkListSaid : Prop := fnWlkListRow.holds Try.pinned (OpenSpec.ofChange fnWlkListSpec)

/-- ITS FALSE NEIGHBOUR: 'it returns false'. Refute it at one input. -/
def fnWlkListWrong : ChangeSpec := { name := "fnWlkList", fn := fun _ => fun
  | [d] => { results := [.lit (.bool false)], args := [d] }
  | _ => none }
def FnWlkListWrongFalsely : Prop := fnWlkListRow.holds Try.pinned (OpenSpec.ofChange fnWlkListWrong)

/-- 'laws.FnCllNew': WHATEVER THE INPUT: true; the input reads as it did. -/
def fnCllNewSpec : ChangeSpec := { name := "fnCllNew", fn := fun _ => fun
  | [d] => { results := [.lit (.bool true)], args := [d] }
  | _ => none }
def fnCllNewRow : OpenClaim := { program := "ytbbpipbemhggdaa", sum := "3420ea841d4a044a2b045b2bf32183dea2edf6b60430f82a2627595cc111cb6b", func := "loop.example/landmarch/laws.FnCllNew", spec := "fnCllNew", apart := false }
def FnCllNewSaid : Prop := fnCllNewRow.holds Try.pinned (OpenSpec.ofChange fnCllNewSpec)

/-- ITS FALSE NEIGHBOUR: 'it returns false'. Refute it at one input. -/
def fnCllNewWrong : ChangeSpec := { name := "fnCllNew", fn := fun _ => fun
  | [d] => { results := [.lit (.bool false)], args := [d] }
  | _ => none }
def FnCllNewWrongFalsely : Prop := fnCllNewRow.holds Try.pinned (OpenSpec.ofChange fnCllNewWrong)

/-- 'laws.FnGstPut': WHATEVER THE INPUT: true; the input reads as it did. -/
def fnGstPutSpec : ChangeSpec := { name := "fnGstPut", fn := fun _ => fun
  | [d1, d2] => { results := [.lit (.bool true)], args := [d1, d2] }
  | _ => none }
def fnGstPutRow : OpenClaim := { program := "ytbbpipbemhggdaa", sum := "3420ea841d4a044a2b045b2bf32183dea2edf6b60430f82a2627595cc111cb6b", func := "loop.example/landmarch/laws.FnGstPut", spec := "fnGstPut", inPlace := ["slices.overlaps[loop.example/landmarch/impl.GstGhost]"], apart := false }
def FnGstPutSaid : Prop := fnGstPutRow.holds Try.pinned (OpenSpec.ofChange fnGstPutSpec)

/-- ITS FALSE NEIGHBOUR: 'it returns false'. Refute it at one input. -/
def fnGstPutWrong : ChangeSpec := { name := "fnGstPut", fn := fun _ => fun
  | [d1, d2] => { results := [.lit (.bool false)], args := [d1, d2] }
  | _ => none }
def FnGstPutWrongFalsely : Prop := fnGstPutRow.holds Try.pinned (OpenSpec.ofChange fnGstPutWrong)

/- THE SECOND FORM. 'bulk': how many values and letters a reading holds, each counted each time it is reached (what is shared counts as often as it is met; a slice's spare places count too). A statement '..UptoSaid' is the law's where the arguments, and the package variables that the reading takes, are together of bulk at most 1048576: NARROWER than '..Said'. Prove '..Said' where nothing that the law and all that it calls make is longer than what came in: it says more and counts as full. Else prove '..UptoSaid'. A law counts once. -/
mutual
def uptoBulk {H : Type} : DataW H → Nat
  | .lit (.string bytes) => bytes.length + 1
  | .lit _ => 1
  | .nil => 1
  | .ptr d => uptoBulk d + 1
  | .slice elems spare => uptoBulkAll elems + uptoBulkAll spare + 1
  | .agg parts => uptoBulkAll parts + 1
  | .iface _ d => uptoBulk d + 1
  | .map entries => uptoBulkEntries entries + 1
  | .held _ => 1
def uptoBulkAll {H : Type} : List (DataW H) → Nat
  | [] => 0
  | d :: r => uptoBulk d + uptoBulkAll r
def uptoBulkEntries {H : Type} : List (Lit × DataW H) → Nat
  | [] => 0
  | x :: r => uptoBulkEntry x + uptoBulkEntries r
def uptoBulkEntry {H : Type} : Lit × DataW H → Nat
  | (.string bytes, d) => bytes.length + uptoBulk d + 1
  | (_, d) => uptoBulk d + 1
 end
def uptoSmall : (H : Type) → List (DataW H) → Bool := fun _ ds => decide (uptoBulkAll ds ≤ 1048576)
def OpenSpec.upto (s : _root_.Go.ChangeSpec) : _root_.Go.OpenSpec := { _root_.Go.OpenSpec.ofChange s with cond := some uptoSmall }

/-- 'laws.FnPlcSides', WHERE WHAT IT READS IS OF BULK AT MOST 1048576: true; the input reads as it did. -/
def fnPlcSidesUptoRow : OpenClaim := { program := "ytbbpipbemhggdaa", sum := "3420ea841d4a044a2b045b2bf32183dea2edf6b60430f82a2627595cc111cb6b", func := "loop.example/landmarch/laws.FnPlcSides", spec := "fnPlcSides", apart := false, narrowed := true }
def FnPlcSidesUptoSaid : Prop := fnPlcSidesUptoRow.holds Try.pinned (OpenSpec.upto fnPlcSidesSpec)

/-- 'laws.FnPlcEdge', WHERE WHAT IT READS IS OF BULK AT MOST 1048576: true; the input reads as it did. -/
def fnPlcEdgeUptoRow : OpenClaim := { program := "ytbbpipbemhggdaa", sum := "3420ea841d4a044a2b045b2bf32183dea2edf6b60430f82a2627595cc111cb6b", func := "loop.example/landmarch/laws.FnPlcEdge", spec := "fnPlcEdge", apart := false, narrowed := true }
def FnPlcEdgeUptoSaid : Prop := fnPlcEdgeUptoRow.holds Try.pinned (OpenSpec.upto fnPlcEdgeSpec)

/-- 'laws.FnArbGrant', WHERE WHAT IT READS IS OF BULK AT MOST 1048576: true; the input reads as it did. -/
def fnArbGrantUptoRow : OpenClaim := { program := "ytbbpipbemhggdaa", sum := "3420ea841d4a044a2b045b2bf32183dea2edf6b60430f82a2627595cc111cb6b", func := "loop.example/landmarch/laws.FnArbGrant", spec := "fnArbGrant", apart := false, narrowed := true }
def FnArbGrantUptoSaid : Prop := fnArbGrantUptoRow.holds Try.pinned (OpenSpec.upto fnArbGrantSpec)

/-- 'laws.FnPclFrom', WHERE WHAT IT READS IS OF BULK AT MOST 1048576: true; the input reads as it did. -/
def fnPclFromUptoRow : OpenClaim := { program := "ytbbpipbemhggdaa", sum := "3420ea841d4a044a2b045b2bf32183dea2edf6b60430f82a2627595cc111cb6b", func := "loop.example/landmarch/laws.FnPclFrom", spec := "fnPclFrom", apart := false, narrowed := true }
def FnPclFromUptoSaid : Prop := fnPclFromUptoRow.holds Try.pinned (OpenSpec.upto fnPclFromSpec)

/-- 'laws.FnWlkList', WHERE WHAT IT READS IS OF BULK AT MOST 1048576: true; the input reads as it did. -/
def fnWlkListUptoRow : OpenClaim := { program := "ytbbpipbemhggdaa", sum := "3420ea841d4a044a2b045b2bf32183dea2edf6b60430f82a2627595cc111cb6b", func := "loop.example/landmarch/laws.FnWlkList", spec := "fnWlkList", inPlace := ["slices.overlaps[loop.example/landmarch/impl.WlkWalker]"], unfollowed := true, recurses := true, apart := false, narrowed := true }
def FnWlkListUptoSaid : Prop := fnWlkListUptoRow.holds Try.pinned (OpenSpec.upto fnWlkListSpec)

/-- 'laws.FnCllNew', WHERE WHAT IT READS IS OF BULK AT MOST 1048576: true; the input reads as it did. -/
def fnCllNewUptoRow : OpenClaim := { program := "ytbbpipbemhggdaa", sum := "3420ea841d4a044a2b045b2bf32183dea2edf6b60430f82a2627595cc111cb6b", func := "loop.example/landmarch/laws.FnCllNew", spec := "fnCllNew", apart := false, narrowed := true }
def FnCllNewUptoSaid : Prop := fnCllNewUptoRow.holds Try.pinned (OpenSpec.upto fnCllNewSpec)

/-- 'laws.FnGstPut', WHERE WHAT IT READS IS OF BULK AT MOST 1048576: true; the input reads as it did. -/
def fnGstPutUptoRow : OpenClaim := { program := "ytbbpipbemhggdaa", sum := "3420ea841d4a044a2b045b2bf32183dea2edf6b60430f82a2627595cc111cb6b", func := "loop.example/landmarch/laws.FnGstPut", spec := "fnGstPut", inPlace := ["slices.overlaps[loop.example/landmarch/impl.GstGhost]"], apart := false, narrowed := true }
def FnGstPutUptoSaid : Prop := fnGstPutUptoRow.holds Try.pinned (OpenSpec.upto fnGstPutSpec)

end Rows
end Go.Proofs.Ytbbpipbemhggdaa
