/-
  No cell of these rows narrows 'for every input' (looked for: loops, veiled, ifaces, maps, wideKeys, modest, calm, conditions, laid).
  DERIVED. THE GIVEN ROWS OF THIS SEAT. 10 by the template 'for every input the law returns true; each argument reads behind the call as it read before'; 0 by the template 'total and deterministic' (their statements: YtablgohncilmfaaTotals.lean).
  GIVEN WITH THE SEED: the statements are not yours to turn. If you find one false, say at which input.
  Laid BY PROGRAM, IN A SANDBOX (cutbox-rows.mjs): the forced cells as the released guide's own fill.sh prints them over the translation 9937948debaafff5… (all of the seat's roots in one cut). By AI agents, Wed Nov 11 2026. No macro, syntax, notation, axiom, sorry.
-/
import Derived.Test.YtablgohncilmfaaChecked
import GoSem.Claim
import GoSem.ClaimJoined
import GoSem.ClaimMapViews
import Derived.JoinedTies
import Derived.KernelRfl
namespace Go.Proofs.Ytablgohncilmfaa
/- THE CELL 'sum', in the pinned program and in every row, IS THE sha256 OF THE DUMP (.gsa) THAT YtablgohncilmfaaProg.lean LOADS. Nothing in Lean hashes anything: it is a label: what it is worth is what the hold of that sum in a sandbox is worth. -/
noncomputable def Try.pinned : Pinned := { name := "ytablgohncilmfaa", sum := "9937948debaafff570acdfdcd37dcf3dae9a141db38baf7a4be0579da147c105", checked := Try.checked }
namespace Rows
def none {H : Type} : Left H := { results := [], args := [] }

/-- 'laws.FnExactCllIn': WHATEVER THE INPUT: true; the input reads as it did. -/
def fnExactCllInSpec : ChangeSpec := { name := "fnExactCllIn", fn := fun _ => fun
  | [d1, d2, d3, d4] => { results := [.lit (.bool true)], args := [d1, d2, d3, d4] }
  | _ => none }
def fnExactCllInRow : OpenClaim := { program := "ytablgohncilmfaa", sum := "9937948debaafff570acdfdcd37dcf3dae9a141db38baf7a4be0579da147c105", func := "loop.example/landmarch/laws.FnExactCllIn", spec := "fnExactCllIn", inPlace := ["slices.overlaps[loop.example/landmarch/impl.WlkWalker]"], unfollowed := true, recurses := true, apart := false }
def FnExactCllInSaid : Prop := fnExactCllInRow.holds Try.pinned (OpenSpec.ofChange fnExactCllInSpec)

/-- ITS FALSE NEIGHBOUR: 'it returns false'. Refute it at one input. -/
def fnExactCllInWrong : ChangeSpec := { name := "fnExactCllIn", fn := fun _ => fun
  | [d1, d2, d3, d4] => { results := [.lit (.bool false)], args := [d1, d2, d3, d4] }
  | _ => none }
def FnExactCllInWrongFalsely : Prop := fnExactCllInRow.holds Try.pinned (OpenSpec.ofChange fnExactCllInWrong)

/-- 'laws.FnExactCllDo': WHATEVER THE INPUT: true; the input reads as it did. -/
def fnExactCllDoSpec : ChangeSpec := { name := "fnExactCllDo", fn := fun _ => fun
  | [d1, d2, d3] => { results := [.lit (.bool true)], args := [d1, d2, d3] }
  | _ => none }
def fnExactCllDoRow : OpenClaim := { program := "ytablgohncilmfaa", sum := "9937948debaafff570acdfdcd37dcf3dae9a141db38baf7a4be0579da147c105", func := "loop.example/landmarch/laws.FnExactCllDo", spec := "fnExactCllDo", unfollowed := true, recurses := true, apart := false }
def FnExactCllDoSaid : Prop := fnExactCllDoRow.holds Try.pinned (OpenSpec.ofChange fnExactCllDoSpec)

/-- ITS FALSE NEIGHBOUR: 'it returns false'. Refute it at one input. -/
def fnExactCllDoWrong : ChangeSpec := { name := "fnExactCllDo", fn := fun _ => fun
  | [d1, d2, d3] => { results := [.lit (.bool false)], args := [d1, d2, d3] }
  | _ => none }
def FnExactCllDoWrongFalsely : Prop := fnExactCllDoRow.holds Try.pinned (OpenSpec.ofChange fnExactCllDoWrong)

/-- 'laws.FnCllAck': WHATEVER THE INPUT: true; the input reads as it did. -/
def fnCllAckSpec : ChangeSpec := { name := "fnCllAck", fn := fun _ => fun
  | [d] => { results := [.lit (.bool true)], args := [d] }
  | _ => none }
def fnCllAckRow : OpenClaim := { program := "ytablgohncilmfaa", sum := "9937948debaafff570acdfdcd37dcf3dae9a141db38baf7a4be0579da147c105", func := "loop.example/landmarch/laws.FnCllAck", spec := "fnCllAck", apart := false }
def FnCllAckSaid : Prop := fnCllAckRow.holds Try.pinned (OpenSpec.ofChange fnCllAckSpec)

/-- ITS FALSE NEIGHBOUR: 'it returns false'. Refute it at one input. -/
def fnCllAckWrong : ChangeSpec := { name := "fnCllAck", fn := fun _ => fun
  | [d] => { results := [.lit (.bool false)], args := [d] }
  | _ => none }
def FnCllAckWrongFalsely : Prop := fnCllAckRow.holds Try.pinned (OpenSpec.ofChange fnCllAckWrong)

/-- 'laws.FnCllApart': WHATEVER THE INPUT: true; the input reads as it did. -/
def fnCllApartSpec : ChangeSpec := { name := "fnCllApart", fn := fun _ => fun
  | [d] => { results := [.lit (.bool true)], args := [d] }
  | _ => none }
def fnCllApartRow : OpenClaim := { program := "ytablgohncilmfaa", sum := "9937948debaafff570acdfdcd37dcf3dae9a141db38baf7a4be0579da147c105", func := "loop.example/landmarch/laws.FnCllApart", spec := "fnCllApart", unfollowed := true, recurses := true, apart := false }
def FnCllApartSaid : Prop := fnCllApartRow.holds Try.pinned (OpenSpec.ofChange fnCllApartSpec)

/-- ITS FALSE NEIGHBOUR: 'it returns false'. Refute it at one input. -/
def fnCllApartWrong : ChangeSpec := { name := "fnCllApart", fn := fun _ => fun
  | [d] => { results := [.lit (.bool false)], args := [d] }
  | _ => none }
def FnCllApartWrongFalsely : Prop := fnCllApartRow.holds Try.pinned (OpenSpec.ofChange fnCllApartWrong)

/-- 'laws.FnCllGive': WHATEVER THE INPUT: true; the input reads as it did. -/
def fnCllGiveSpec : ChangeSpec := { name := "fnCllGive", fn := fun _ => fun
  | [d] => { results := [.lit (.bool true)], args := [d] }
  | _ => none }
def fnCllGiveRow : OpenClaim := { program := "ytablgohncilmfaa", sum := "9937948debaafff570acdfdcd37dcf3dae9a141db38baf7a4be0579da147c105", func := "loop.example/landmarch/laws.FnCllGive", spec := "fnCllGive", unfollowed := true, recurses := true, apart := false }
def FnCllGiveSaid : Prop := fnCllGiveRow.holds Try.pinned (OpenSpec.ofChange fnCllGiveSpec)

/-- ITS FALSE NEIGHBOUR: 'it returns false'. Refute it at one input. -/
def fnCllGiveWrong : ChangeSpec := { name := "fnCllGive", fn := fun _ => fun
  | [d] => { results := [.lit (.bool false)], args := [d] }
  | _ => none }
def FnCllGiveWrongFalsely : Prop := fnCllGiveRow.holds Try.pinned (OpenSpec.ofChange fnCllGiveWrong)

/-- 'laws.FnCllDrop': WHATEVER THE INPUT: true; the input reads as it did. -/
def fnCllDropSpec : ChangeSpec := { name := "fnCllDrop", fn := fun _ => fun
  | [d] => { results := [.lit (.bool true)], args := [d] }
  | _ => none }
def fnCllDropRow : OpenClaim := { program := "ytablgohncilmfaa", sum := "9937948debaafff570acdfdcd37dcf3dae9a141db38baf7a4be0579da147c105", func := "loop.example/landmarch/laws.FnCllDrop", spec := "fnCllDrop", unfollowed := true, recurses := true, apart := false }
def FnCllDropSaid : Prop := fnCllDropRow.holds Try.pinned (OpenSpec.ofChange fnCllDropSpec)

/-- ITS FALSE NEIGHBOUR: 'it returns false'. Refute it at one input. -/
def fnCllDropWrong : ChangeSpec := { name := "fnCllDrop", fn := fun _ => fun
  | [d] => { results := [.lit (.bool false)], args := [d] }
  | _ => none }
def FnCllDropWrongFalsely : Prop := fnCllDropRow.holds Try.pinned (OpenSpec.ofChange fnCllDropWrong)

/-- 'laws.FnCllStep': WHATEVER THE INPUT: true; the input reads as it did. -/
def fnCllStepSpec : ChangeSpec := { name := "fnCllStep", fn := fun _ => fun
  | [d] => { results := [.lit (.bool true)], args := [d] }
  | _ => none }
def fnCllStepRow : OpenClaim := { program := "ytablgohncilmfaa", sum := "9937948debaafff570acdfdcd37dcf3dae9a141db38baf7a4be0579da147c105", func := "loop.example/landmarch/laws.FnCllStep", spec := "fnCllStep", unfollowed := true, recurses := true, apart := false }
def FnCllStepSaid : Prop := fnCllStepRow.holds Try.pinned (OpenSpec.ofChange fnCllStepSpec)

/-- ITS FALSE NEIGHBOUR: 'it returns false'. Refute it at one input. -/
def fnCllStepWrong : ChangeSpec := { name := "fnCllStep", fn := fun _ => fun
  | [d] => { results := [.lit (.bool false)], args := [d] }
  | _ => none }
def FnCllStepWrongFalsely : Prop := fnCllStepRow.holds Try.pinned (OpenSpec.ofChange fnCllStepWrong)

/-- 'laws.FnCllThrow': WHATEVER THE INPUT: true; the input reads as it did. -/
def fnCllThrowSpec : ChangeSpec := { name := "fnCllThrow", fn := fun _ => fun
  | [d] => { results := [.lit (.bool true)], args := [d] }
  | _ => none }
def fnCllThrowRow : OpenClaim := { program := "ytablgohncilmfaa", sum := "9937948debaafff570acdfdcd37dcf3dae9a141db38baf7a4be0579da147c105", func := "loop.example/landmarch/laws.FnCllThrow", spec := "fnCllThrow", unfollowed := true, recurses := true, apart := false }
def FnCllThrowSaid : Prop := fnCllThrowRow.holds Try.pinned (OpenSpec.ofChange fnCllThrowSpec)

/-- ITS FALSE NEIGHBOUR: 'it returns false'. Refute it at one input. -/
def fnCllThrowWrong : ChangeSpec := { name := "fnCllThrow", fn := fun _ => fun
  | [d] => { results := [.lit (.bool false)], args := [d] }
  | _ => none }
def FnCllThrowWrongFalsely : Prop := fnCllThrowRow.holds Try.pinned (OpenSpec.ofChange fnCllThrowWrong)

/-- 'laws.FnCllIn': WHATEVER THE INPUT: true; the input reads as it did. -/
def fnCllInSpec : ChangeSpec := { name := "fnCllIn", fn := fun _ => fun
  | [d] => { results := [.lit (.bool true)], args := [d] }
  | _ => none }
def fnCllInRow : OpenClaim := { program := "ytablgohncilmfaa", sum := "9937948debaafff570acdfdcd37dcf3dae9a141db38baf7a4be0579da147c105", func := "loop.example/landmarch/laws.FnCllIn", spec := "fnCllIn", inPlace := ["slices.overlaps[loop.example/landmarch/impl.WlkWalker]"], unfollowed := true, recurses := true, apart := false }
def FnCllInSaid : Prop := fnCllInRow.holds Try.pinned (OpenSpec.ofChange fnCllInSpec)

/-- ITS FALSE NEIGHBOUR: 'it returns false'. Refute it at one input. -/
def fnCllInWrong : ChangeSpec := { name := "fnCllIn", fn := fun _ => fun
  | [d] => { results := [.lit (.bool false)], args := [d] }
  | _ => none }
def FnCllInWrongFalsely : Prop := fnCllInRow.holds Try.pinned (OpenSpec.ofChange fnCllInWrong)

/-- 'laws.FnCllOnce': WHATEVER THE INPUT: true; the input reads as it did. -/
def fnCllOnceSpec : ChangeSpec := { name := "fnCllOnce", fn := fun _ => fun
  | [d] => { results := [.lit (.bool true)], args := [d] }
  | _ => none }
def fnCllOnceRow : OpenClaim := { program := "ytablgohncilmfaa", sum := "9937948debaafff570acdfdcd37dcf3dae9a141db38baf7a4be0579da147c105", func := "loop.example/landmarch/laws.FnCllOnce", spec := "fnCllOnce", unfollowed := true, recurses := true, apart := false }
def FnCllOnceSaid : Prop := fnCllOnceRow.holds Try.pinned (OpenSpec.ofChange fnCllOnceSpec)

/-- ITS FALSE NEIGHBOUR: 'it returns false'. Refute it at one input. -/
def fnCllOnceWrong : ChangeSpec := { name := "fnCllOnce", fn := fun _ => fun
  | [d] => { results := [.lit (.bool false)], args := [d] }
  | _ => none }
def FnCllOnceWrongFalsely : Prop := fnCllOnceRow.holds Try.pinned (OpenSpec.ofChange fnCllOnceWrong)

/- THE SECOND FORM. 'bulk': how many values and letters a reading holds, each counted each time it is reached (what is shared counts as often as it is met; a slice's spare places count too). A statement '..UptoSaid' is the law's where the arguments, and the package variables that the reading takes, are together of bulk at most 1048576: NARROWER than '..Said'. Prove '..Said' where nothing that the law and all that it calls make is longer than what came in: it says more and counts as full. Else prove '..UptoSaid'. A law counts once. -/
mutual
def uptoBulk {H : Type} : DataW H → Nat
  | .lit (.string bytes) => bytes.length + 1
  | .lit _ => 1
  | .nil => 1
  | .ptr d => uptoBulk d + 1
  | .slice elems spare => uptoBulkAll elems + uptoBulkAll spare + 1
  | .agg parts => uptoBulkAll parts + 1
  | .iface _ d => uptoBulk d + 1
  | .map entries => uptoBulkEntries entries + 1
  | .held _ => 1
def uptoBulkAll {H : Type} : List (DataW H) → Nat
  | [] => 0
  | d :: r => uptoBulk d + uptoBulkAll r
def uptoBulkEntries {H : Type} : List (Lit × DataW H) → Nat
  | [] => 0
  | x :: r => uptoBulkEntry x + uptoBulkEntries r
def uptoBulkEntry {H : Type} : Lit × DataW H → Nat
  | (.string bytes, d) => bytes.length + uptoBulk d + 1
  | (_, d) => uptoBulk d + 1
 end
def uptoSmall : (H : Type) → List (DataW H) → Bool := fun _ ds => decide (uptoBulkAll ds ≤ 1048576)
def OpenSpec.upto (s : _root_.Go.ChangeSpec) : _root_.Go.OpenSpec := { _root_.Go.OpenSpec.ofChange s with cond := some uptoSmall }

/-- 'laws.FnExactCllIn', WHERE WHAT IT READS IS OF BULK AT MOST 1048576: true; the input reads as it did. -/
def fnExactCllInUptoRow : OpenClaim := { program := "ytablgohncilmfaa", sum := "9937948debaafff570acdfdcd37dcf3dae9a141db38baf7a4be0579da147c105", func := "loop.example/landmarch/laws.FnExactCllIn", spec := "fnExactCllIn", inPlace := ["slices.overlaps[loop.example/landmarch/impl.WlkWalker]"], unfollowed := true, recurses := true, apart := false, narrowed := true }
def FnExactCllInUptoSaid : Prop := fnExactCllInUptoRow.holds Try.pinned (OpenSpec.upto fnExactCllInSpec)

/-- 'laws.FnExactCllDo', WHERE WHAT IT READS IS OF BULK AT MOST 1048576: true; the input reads as it did. -/
def fnExactCllDoUptoRow : OpenClaim := { program := "ytablgohncilmfaa", sum := "9937948debaafff570acdfdcd37dcf3dae9a141db38baf7a4be0579da147c105", func := "loop.example/landmarch/laws.FnExactCllDo", spec := "fnExactCllDo", unfollowed := true, recurses := true, apart := false, narrowed := true }
def FnExactCllDoUptoSaid : Prop := fnExactCllDoUptoRow.holds Try.pinned (OpenSpec.upto fnExactCllDoSpec)

/-- 'laws.FnCllAck', WHERE WHAT IT READS IS OF BULK AT MOST 1048576: true; the input reads as it did. -/
def fnCllAckUptoRow : OpenClaim := { program := "ytablgohncilmfaa", sum := "9937948debaafff570acdfdcd37dcf3dae9a141db38baf7a4be0579da147c105", func := "loop.example/landmarch/laws.FnCllAck", spec := "fnCllAck", apart := false, narrowed := true }
def FnCllAckUptoSaid : Prop := fnCllAckUptoRow.holds Try.pinned (OpenSpec.upto fnCllAckSpec)

/-- 'laws.FnCllApart', WHERE WHAT IT READS IS OF BULK AT MOST 1048576: true; the input reads as it did. -/
def fnCllApartUptoRow : OpenClaim := { program := "ytablgohncilmfaa", sum := "9937948debaafff570acdfdcd37dcf3dae9a141db38baf7a4be0579da147c105", func := "loop.example/landmarch/laws.FnCllApart", spec := "fnCllApart", unfollowed := true, recurses := true, apart := false, narrowed := true }
def FnCllApartUptoSaid : Prop := fnCllApartUptoRow.holds Try.pinned (OpenSpec.upto fnCllApartSpec)

/-- 'laws.FnCllGive', WHERE WHAT IT READS IS OF BULK AT MOST 1048576: true; the input reads as it did. -/
def fnCllGiveUptoRow : OpenClaim := { program := "ytablgohncilmfaa", sum := "9937948debaafff570acdfdcd37dcf3dae9a141db38baf7a4be0579da147c105", func := "loop.example/landmarch/laws.FnCllGive", spec := "fnCllGive", unfollowed := true, recurses := true, apart := false, narrowed := true }
def FnCllGiveUptoSaid : Prop := fnCllGiveUptoRow.holds Try.pinned (OpenSpec.upto fnCllGiveSpec)

/-- 'laws.FnCllDrop', WHERE WHAT IT READS IS OF BULK AT MOST 1048576: true; the input reads as it did. -/
def fnCllDropUptoRow : OpenClaim := { program := "ytablgohncilmfaa", sum := "9937948debaafff570acdfdcd37dcf3dae9a141db38baf7a4be0579da147c105", func := "loop.example/landmarch/laws.FnCllDrop", spec := "fnCllDrop", unfollowed := true, recurses := true, apart := false, narrowed := true }
def FnCllDropUptoSaid : Prop := fnCllDropUptoRow.holds Try.pinned (OpenSpec.upto fnCllDropSpec)

/-- 'laws.FnCllStep', WHERE WHAT IT READS IS OF BULK AT MOST 1048576: true; the input reads as it did. -/
def fnCllStepUptoRow : OpenClaim := { program := "ytablgohncilmfaa", sum := "9937948debaafff570acdfdcd37dcf3dae9a141db38baf7a4be0579da147c105", func := "loop.example/landmarch/laws.FnCllStep", spec := "fnCllStep", unfollowed := true, recurses := true, apart := false, narrowed := true }
def FnCllStepUptoSaid : Prop := fnCllStepUptoRow.holds Try.pinned (OpenSpec.upto fnCllStepSpec)

/-- 'laws.FnCllThrow', WHERE WHAT IT READS IS OF BULK AT MOST 1048576: true; the input reads as it did. -/
def fnCllThrowUptoRow : OpenClaim := { program := "ytablgohncilmfaa", sum := "9937948debaafff570acdfdcd37dcf3dae9a141db38baf7a4be0579da147c105", func := "loop.example/landmarch/laws.FnCllThrow", spec := "fnCllThrow", unfollowed := true, recurses := true, apart := false, narrowed := true }
def FnCllThrowUptoSaid : Prop := fnCllThrowUptoRow.holds Try.pinned (OpenSpec.upto fnCllThrowSpec)

/-- 'laws.FnCllIn', WHERE WHAT IT READS IS OF BULK AT MOST 1048576: true; the input reads as it did. -/
def fnCllInUptoRow : OpenClaim := { program := "ytablgohncilmfaa", sum := "9937948debaafff570acdfdcd37dcf3dae9a141db38baf7a4be0579da147c105", func := "loop.example/landmarch/laws.FnCllIn", spec := "fnCllIn", inPlace := ["slices.overlaps[loop.example/landmarch/impl.WlkWalker]"], unfollowed := true, recurses := true, apart := false, narrowed := true }
def FnCllInUptoSaid : Prop := fnCllInUptoRow.holds Try.pinned (OpenSpec.upto fnCllInSpec)

/-- 'laws.FnCllOnce', WHERE WHAT IT READS IS OF BULK AT MOST 1048576: true; the input reads as it did. -/
def fnCllOnceUptoRow : OpenClaim := { program := "ytablgohncilmfaa", sum := "9937948debaafff570acdfdcd37dcf3dae9a141db38baf7a4be0579da147c105", func := "loop.example/landmarch/laws.FnCllOnce", spec := "fnCllOnce", unfollowed := true, recurses := true, apart := false, narrowed := true }
def FnCllOnceUptoSaid : Prop := fnCllOnceUptoRow.holds Try.pinned (OpenSpec.upto fnCllOnceSpec)

end Rows
end Go.Proofs.Ytablgohncilmfaa
