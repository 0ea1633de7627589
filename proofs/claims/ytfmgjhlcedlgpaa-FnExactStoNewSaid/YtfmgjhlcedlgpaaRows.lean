/-
  No cell of these rows narrows 'for every input' (looked for: loops, veiled, ifaces, maps, wideKeys, modest, calm, conditions, laid).
  DERIVED. THE GIVEN ROWS OF THIS SEAT. 4 by the template 'for every input the law returns true; each argument reads behind the call as it read before'; 0 by the template 'total and deterministic' (their statements: YtfmgjhlcedlgpaaTotals.lean).
  GIVEN WITH THE SEED: the statements are not yours to turn. If you find one false, say at which input.
  Laid BY PROGRAM, IN A SANDBOX (cutbox-rows.mjs): the forced cells as the released guide's own fill.sh prints them over the translation c3a97f4aedc1d00b… (all of the seat's roots in one cut). By AI agents, Wed Nov 11 2026. No macro, syntax, notation, axiom, sorry.
-/
import Derived.Test.YtfmgjhlcedlgpaaChecked
import GoSem.Claim
import GoSem.ClaimJoined
import GoSem.ClaimMapViews
import Derived.JoinedTies
import Derived.KernelRfl
namespace Go.Proofs.Ytfmgjhlcedlgpaa
/- THE CELL 'sum', in the pinned program and in every row, IS THE sha256 OF THE DUMP (.gsa) THAT YtfmgjhlcedlgpaaProg.lean LOADS. Nothing in Lean hashes anything: it is a label: what it is worth is what the hold of that sum in a sandbox is worth. -/
noncomputable def Try.pinned : Pinned := { name := "ytfmgjhlcedlgpaa", sum := "c3a97f4aedc1d00ba846d7cc7dbb6edb4a0c75213547aef94acf353d609c44d9", checked := Try.checked }
namespace Rows
def none {H : Type} : Left H := { results := [], args := [] }

/-- 'laws.FnExactWlkPut': WHATEVER THE INPUT: true; the input reads as it did. -/
def fnExactWlkPutSpec : ChangeSpec := { name := "fnExactWlkPut", fn := fun _ => fun
  | [d1, d2] => { results := [.lit (.bool true)], args := [d1, d2] }
  | _ => none }
def fnExactWlkPutRow : OpenClaim := { program := "ytfmgjhlcedlgpaa", sum := "c3a97f4aedc1d00ba846d7cc7dbb6edb4a0c75213547aef94acf353d609c44d9", func := "loop.example/landmarch/laws.FnExactWlkPut", spec := "fnExactWlkPut", inPlace := ["slices.overlaps[loop.example/landmarch/impl.WlkWalker]"], unfollowed := true, recurses := true, apart := false }
def FnExactWlkPutSaid : Prop := fnExactWlkPutRow.holds Try.pinned (OpenSpec.ofChange fnExactWlkPutSpec)

/-- ITS FALSE NEIGHBOUR: 'it returns false'. Refute it at one input. -/
def fnExactWlkPutWrong : ChangeSpec := { name := "fnExactWlkPut", fn := fun _ => fun
  | [d1, d2] => { results := [.lit (.bool false)], args := [d1, d2] }
  | _ => none }
def FnExactWlkPutWrongFalsely : Prop := fnExactWlkPutRow.holds Try.pinned (OpenSpec.ofChange fnExactWlkPutWrong)

/-- 'laws.FnExactCllNew': WHATEVER THE INPUT: true; the input reads as it did. -/
def fnExactCllNewSpec : ChangeSpec := { name := "fnExactCllNew", fn := fun _ => fun
  | [d1, d2, d3] => { results := [.lit (.bool true)], args := [d1, d2, d3] }
  | _ => none }
def fnExactCllNewRow : OpenClaim := { program := "ytfmgjhlcedlgpaa", sum := "c3a97f4aedc1d00ba846d7cc7dbb6edb4a0c75213547aef94acf353d609c44d9", func := "loop.example/landmarch/laws.FnExactCllNew", spec := "fnExactCllNew", apart := false }
def FnExactCllNewSaid : Prop := fnExactCllNewRow.holds Try.pinned (OpenSpec.ofChange fnExactCllNewSpec)

/-- ITS FALSE NEIGHBOUR: 'it returns false'. Refute it at one input. -/
def fnExactCllNewWrong : ChangeSpec := { name := "fnExactCllNew", fn := fun _ => fun
  | [d1, d2, d3] => { results := [.lit (.bool false)], args := [d1, d2, d3] }
  | _ => none }
def FnExactCllNewWrongFalsely : Prop := fnExactCllNewRow.holds Try.pinned (OpenSpec.ofChange fnExactCllNewWrong)

/-- 'laws.FnExactStoNew': WHATEVER THE INPUT: true; the input reads as it did. -/
def fnExactStoNewSpec : ChangeSpec := { name := "fnExactStoNew", fn := fun _ => fun
  | [d1, d2, d3] => { results := [.lit (.bool true)], args := [d1, d2, d3] }
  | _ => none }
def fnExactStoNewRow : OpenClaim := { program := "ytfmgjhlcedlgpaa", sum := "c3a97f4aedc1d00ba846d7cc7dbb6edb4a0c75213547aef94acf353d609c44d9", func := "loop.example/landmarch/laws.FnExactStoNew", spec := "fnExactStoNew", apart := false }
def FnExactStoNewSaid : Prop := fnExactStoNewRow.holds Try.pinned (OpenSpec.ofChange fnExactStoNewSpec)

/-- ITS FALSE NEIGHBOUR: 'it returns false'. Refute it at one input. -/
def fnExactStoNewWrong : ChangeSpec := { name := "fnExactStoNew", fn := fun _ => fun
  | [d1, d2, d3] => { results := [.lit (.bool false)], args := [d1, d2, d3] }
  | _ => none }
def FnExactStoNewWrongFalsely : Prop := fnExactStoNewRow.holds Try.pinned (OpenSpec.ofChange fnExactStoNewWrong)

/-- 'laws.FnExactCllAck': WHATEVER THE INPUT: true; the input reads as it did. -/
def fnExactCllAckSpec : ChangeSpec := { name := "fnExactCllAck", fn := fun _ => fun
  | [d1, d2, d3, d4] => { results := [.lit (.bool true)], args := [d1, d2, d3, d4] }
  | _ => none }
def fnExactCllAckRow : OpenClaim := { program := "ytfmgjhlcedlgpaa", sum := "c3a97f4aedc1d00ba846d7cc7dbb6edb4a0c75213547aef94acf353d609c44d9", func := "loop.example/landmarch/laws.FnExactCllAck", spec := "fnExactCllAck", apart := false }
def FnExactCllAckSaid : Prop := fnExactCllAckRow.holds Try.pinned (OpenSpec.ofChange fnExactCllAckSpec)

/-- ITS FALSE NEIGHBOUR: 'it returns false'. Refute it at one input. -/
def fnExactCllAckWrong : ChangeSpec := { name := "fnExactCllAck", fn := fun _ => fun
  | [d1, d2, d3, d4] => { results := [.lit (.bool false)], args := [d1, d2, d3, d4] }
  | _ => none }
def FnExactCllAckWrongFalsely : Prop := fnExactCllAckRow.holds Try.pinned (OpenSpec.ofChange fnExactCllAckWrong)

/- THE SECOND FORM. 'bulk': how many values and letters a reading holds, each counted each time it is reached (what is shared counts as often as it is met; a slice's spare places count too). A statement '..UptoSaid' is the law's where the arguments, and the package variables that the reading takes, are together of bulk at most 1048576: NARROWER than '..Said'. Prove '..Said' where nothing that the law and all that it calls make is longer than what came in: it says more and counts as full. Else prove '..UptoSaid'. A law counts once. -/
mutual
def uptoBulk {H : Type} : DataW H → Nat
  | .lit (.string bytes) => bytes.length + 1
  | .lit _ => 1
  | .nil => 1
  | .ptr d => uptoBulk d + 1
  | .slice elems spare => uptoBulkAll elems + uptoBulkAll spare + 1
  | .agg parts => uptoBulkAll parts + 1
  | .iface _ d => uptoBulk d + 1
  | .map entries => uptoBulkEntries entries + 1
  | .held _ => 1
def uptoBulkAll {H : Type} : List (DataW H) → Nat
  | [] => 0
  | d :: r => uptoBulk d + uptoBulkAll r
def uptoBulkEntries {H : Type} : List (Lit × DataW H) → Nat
  | [] => 0
  | x :: r => uptoBulkEntry x + uptoBulkEntries r
def uptoBulkEntry {H : Type} : Lit × DataW H → Nat
  | (.string bytes, d) => bytes.length + uptoBulk d + 1
  | (_, d) => uptoBulk d + 1
 end
def uptoSmall : (H : Type) → List (DataW H) → Bool := fun _ ds => decide (uptoBulkAll ds ≤ 1048576)
def OpenSpec.upto (s : _root_.Go.ChangeSpec) : _root_.Go.OpenSpec := { _root_.Go.OpenSpec.ofChange s with cond := some uptoSmall }

/-- 'laws.FnExactWlkPut', WHERE WHAT IT READS IS OF BULK AT MOST 1048576: true; the input reads as it did. -/
def fnExactWlkPutUptoRow : OpenClaim := { program := "ytfmgjhlcedlgpaa", sum := "c3a97f4aedc1d00ba846d7cc7dbb6edb4a0c75213547aef94acf353d609c44d9", func := "loop.example/landmarch/laws.FnExactWlkPut", spec := "fnExactWlkPut", inPlace := ["slices.overlaps[loop.example/landmarch/impl.WlkWalker]"], unfollowed := true, recurses := true, apart := false, narrowed := true }
def FnExactWlkPutUptoSaid : Prop := fnExactWlkPutUptoRow.holds Try.pinned (OpenSpec.upto fnExactWlkPutSpec)

/-- 'laws.FnExactCllNew', WHERE WHAT IT READS IS OF BULK AT MOST 1048576: true; the input reads as it did. -/
def fnExactCllNewUptoRow : OpenClaim := { program := "ytfmgjhlcedlgpaa", sum := "c3a97f4aedc1d00ba846d7cc7dbb6edb4a0c75213547aef94acf353d609c44d9", func := "loop.example/landmarch/laws.FnExactCllNew", spec := "fnExactCllNew", apart := false, narrowed := true }
def FnExactCllNewUptoSaid : Prop := fnExactCllNewUptoRow.holds Try.pinned (OpenSpec.upto fnExactCllNewSpec)

/-- 'laws.FnExactStoNew', WHERE WHAT IT READS IS OF BULK AT MOST 1048576: true; the input reads as it did. -/
def fnExactStoNewUptoRow : OpenClaim := { program := "ytfmgjhlcedlgpaa", sum := "c3a97f4aedc1d00ba846d7cc7dbb6edb4a0c75213547aef94acf353d609c44d9", func := "loop.example/landmarch/laws.FnExactStoNew", spec := "fnExactStoNew", apart := false, narrowed := true }
def FnExactStoNewUptoSaid : Prop := fnExactStoNewUptoRow.holds Try.pinned (OpenSpec.upto fnExactStoNewSpec)

/-- 'laws.FnExactCllAck', WHERE WHAT IT READS IS OF BULK AT MOST 1048576: true; the input reads as it did. -/
def fnExactCllAckUptoRow : OpenClaim := { program := "ytfmgjhlcedlgpaa", sum := "c3a97f4aedc1d00ba846d7cc7dbb6edb4a0c75213547aef94acf353d609c44d9", func := "loop.example/landmarch/laws.FnExactCllAck", spec := "fnExactCllAck", apart := false, narrowed := true }
def FnExactCllAckUptoSaid : Prop := fnExactCllAckUptoRow.holds Try.pinned (OpenSpec.upto fnExactCllAckSpec)

end Rows
end Go.Proofs.Ytfmgjhlcedlgpaa
