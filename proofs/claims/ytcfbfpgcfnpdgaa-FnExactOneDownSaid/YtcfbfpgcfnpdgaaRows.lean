/-
  No cell of these rows narrows 'for every input' (looked for: loops, veiled, ifaces, maps, wideKeys, modest, calm, conditions, laid).
  DERIVED. THE GIVEN ROWS OF THIS SEAT. 4 by the template 'for every input the law returns true; each argument reads behind the call as it read before'; 0 by the template 'total and deterministic' (their statements: YtcfbfpgcfnpdgaaTotals.lean).
  GIVEN WITH THE SEED: the statements are not yours to turn. If you find one false, say at which input.
  Laid BY PROGRAM, IN A SANDBOX (cutbox-rows.mjs): the forced cells as the released guide's own fill.sh prints them over the translation 89a509d085b61359… (all of the seat's roots in one cut). By AI agents, Wed Nov 11 2026. No macro, syntax, notation, axiom, sorry.
-/
import Derived.Test.YtcfbfpgcfnpdgaaChecked
import GoSem.Claim
import GoSem.ClaimJoined
import GoSem.ClaimMapViews
import Derived.JoinedTies
import Derived.KernelRfl
namespace Go.Proofs.Ytcfbfpgcfnpdgaa
/- THE CELL 'sum', in the pinned program and in every row, IS THE sha256 OF THE DUMP (.gsa) THAT YtcfbfpgcfnpdgaaProg.lean LOADS. Nothing in Lean hashes anything: it is a label: what it is worth is what the hold of that sum in a sandbox is worth. -/
noncomputable def Try.pinned : Pinned := { name := "ytcfbfpgcfnpdgaa", sum := "89a509d085b613597fa24ba6d36846b7d0caeb7577d804a3f86cf7246a65303f", checked := Try.checked }
namespace Rows
def none {H : Type} : Left H := { results := [], args := [] }

/-- 'laws.FnExactArbGrant': WHATEVER THE INPUT: true; the input reads as it did. -/
def fnExactArbGrantSpec : ChangeSpec := { name := "fnExactArbGrant", fn := fun _ => fun
  | [d1, d2, d3, d4, d5] => { results := [.lit (.bool true)], args := [d1, d2, d3, d4, d5] }
  | _ => none }
def fnExactArbGrantRow : OpenClaim := { program := "ytcfbfpgcfnpdgaa", sum := "89a509d085b613597fa24ba6d36846b7d0caeb7577d804a3f86cf7246a65303f", func := "loop.example/landmarch/laws.FnExactArbGrant", spec := "fnExactArbGrant", apart := false }
def FnExactArbGrantSaid : Prop := fnExactArbGrantRow.holds Try.pinned (OpenSpec.ofChange fnExactArbGrantSpec)

/-- ITS FALSE NEIGHBOUR: 'it returns false'. Refute it at one input. -/
def fnExactArbGrantWrong : ChangeSpec := { name := "fnExactArbGrant", fn := fun _ => fun
  | [d1, d2, d3, d4, d5] => { results := [.lit (.bool false)], args := [d1, d2, d3, d4, d5] }
  | _ => none }
def FnExactArbGrantWrongFalsely : Prop := fnExactArbGrantRow.holds Try.pinned (OpenSpec.ofChange fnExactArbGrantWrong)

/-- 'laws.FnExactOneLand': WHATEVER THE INPUT: true; the input reads as it did. -/
def fnExactOneLandSpec : ChangeSpec := { name := "fnExactOneLand", fn := fun _ => fun
  | [d1, d2] => { results := [.lit (.bool true)], args := [d1, d2] }
  | _ => none }
def fnExactOneLandRow : OpenClaim := { program := "ytcfbfpgcfnpdgaa", sum := "89a509d085b613597fa24ba6d36846b7d0caeb7577d804a3f86cf7246a65303f", func := "loop.example/landmarch/laws.FnExactOneLand", spec := "fnExactOneLand", unfollowed := true, recurses := true, apart := false }
def FnExactOneLandSaid : Prop := fnExactOneLandRow.holds Try.pinned (OpenSpec.ofChange fnExactOneLandSpec)

/-- ITS FALSE NEIGHBOUR: 'it returns false'. Refute it at one input. -/
def fnExactOneLandWrong : ChangeSpec := { name := "fnExactOneLand", fn := fun _ => fun
  | [d1, d2] => { results := [.lit (.bool false)], args := [d1, d2] }
  | _ => none }
def FnExactOneLandWrongFalsely : Prop := fnExactOneLandRow.holds Try.pinned (OpenSpec.ofChange fnExactOneLandWrong)

/-- 'laws.FnExactOneDown': WHATEVER THE INPUT: true; the input reads as it did. -/
def fnExactOneDownSpec : ChangeSpec := { name := "fnExactOneDown", fn := fun _ => fun
  | [d1, d2, d3, d4] => { results := [.lit (.bool true)], args := [d1, d2, d3, d4] }
  | _ => none }
def fnExactOneDownRow : OpenClaim := { program := "ytcfbfpgcfnpdgaa", sum := "89a509d085b613597fa24ba6d36846b7d0caeb7577d804a3f86cf7246a65303f", func := "loop.example/landmarch/laws.FnExactOneDown", spec := "fnExactOneDown", apart := false }
def FnExactOneDownSaid : Prop := fnExactOneDownRow.holds Try.pinned (OpenSpec.ofChange fnExactOneDownSpec)

/-- ITS FALSE NEIGHBOUR: 'it returns false'. Refute it at one input. -/
def fnExactOneDownWrong : ChangeSpec := { name := "fnExactOneDown", fn := fun _ => fun
  | [d1, d2, d3, d4] => { results := [.lit (.bool false)], args := [d1, d2, d3, d4] }
  | _ => none }
def FnExactOneDownWrongFalsely : Prop := fnExactOneDownRow.holds Try.pinned (OpenSpec.ofChange fnExactOneDownWrong)

/-- 'laws.FnExactOneDo': WHATEVER THE INPUT: true; the input reads as it did. -/
def fnExactOneDoSpec : ChangeSpec := { name := "fnExactOneDo", fn := fun _ => fun
  | [d1, d2] => { results := [.lit (.bool true)], args := [d1, d2] }
  | _ => none }
def fnExactOneDoRow : OpenClaim := { program := "ytcfbfpgcfnpdgaa", sum := "89a509d085b613597fa24ba6d36846b7d0caeb7577d804a3f86cf7246a65303f", func := "loop.example/landmarch/laws.FnExactOneDo", spec := "fnExactOneDo", unfollowed := true, recurses := true, apart := false }
def FnExactOneDoSaid : Prop := fnExactOneDoRow.holds Try.pinned (OpenSpec.ofChange fnExactOneDoSpec)

/-- ITS FALSE NEIGHBOUR: 'it returns false'. Refute it at one input. -/
def fnExactOneDoWrong : ChangeSpec := { name := "fnExactOneDo", fn := fun _ => fun
  | [d1, d2] => { results := [.lit (.bool false)], args := [d1, d2] }
  | _ => none }
def FnExactOneDoWrongFalsely : Prop := fnExactOneDoRow.holds Try.pinned (OpenSpec.ofChange fnExactOneDoWrong)

/- THE SECOND FORM. 'bulk': how many values and letters a reading holds, each counted each time it is reached (what is shared counts as often as it is met; a slice's spare places count too). A statement '..UptoSaid' is the law's where the arguments, and the package variables that the reading takes, are together of bulk at most 1048576: NARROWER than '..Said'. Prove '..Said' where nothing that the law and all that it calls make is longer than what came in: it says more and counts as full. Else prove '..UptoSaid'. A law counts once. -/
mutual
def uptoBulk {H : Type} : DataW H → Nat
  | .lit (.string bytes) => bytes.length + 1
  | .lit _ => 1
  | .nil => 1
  | .ptr d => uptoBulk d + 1
  | .slice elems spare => uptoBulkAll elems + uptoBulkAll spare + 1
  | .agg parts => uptoBulkAll parts + 1
  | .iface _ d => uptoBulk d + 1
  | .map entries => uptoBulkEntries entries + 1
  | .held _ => 1
def uptoBulkAll {H : Type} : List (DataW H) → Nat
  | [] => 0
  | d :: r => uptoBulk d + uptoBulkAll r
def uptoBulkEntries {H : Type} : List (Lit × DataW H) → Nat
  | [] => 0
  | x :: r => uptoBulkEntry x + uptoBulkEntries r
def uptoBulkEntry {H : Type} : Lit × DataW H → Nat
  | (.string bytes, d) => bytes.length + uptoBulk d + 1
  | (_, d) => uptoBulk d + 1
 end
def uptoSmall : (H : Type) → List (DataW H) → Bool := fun _ ds => decide (uptoBulkAll ds ≤ 1048576)
def OpenSpec.upto (s : _root_.Go.ChangeSpec) : _root_.Go.OpenSpec := { _root_.Go.OpenSpec.ofChange s with cond := some uptoSmall }

/-- 'laws.FnExactArbGrant', WHERE WHAT IT READS IS OF BULK AT MOST 1048576: true; the input reads as it did. -/
def fnExactArbGrantUptoRow : OpenClaim := { program := "ytcfbfpgcfnpdgaa", sum := "89a509d085b613597fa24ba6d36846b7d0caeb7577d804a3f86cf7246a65303f", func := "loop.example/landmarch/laws.FnExactArbGrant", spec := "fnExactArbGrant", apart := false, narrowed := true }
def FnExactArbGrantUptoSaid : Prop := fnExactArbGrantUptoRow.holds Try.pinned (OpenSpec.upto fnExactArbGrantSpec)

/-- 'laws.FnExactOneLand', WHERE WHAT IT READS IS OF BULK AT MOST 1048576: true; the input reads as it did. -/
def fnExactOneLandUptoRow : OpenClaim := { program := "ytcfbfpgcfnpdgaa", sum := "89a509d085b613597fa24ba6d36846b7d0caeb7577d804a3f86cf7246a65303f", func := "loop.example/landmarch/laws.FnExactOneLand", spec := "fnExactOneLand", unfollowed := true, recurses := true, apart := false, narrowed := true }
def FnExactOneLandUptoSaid : Prop := fnExactOneLandUptoRow.holds Try.pinned (OpenSpec.upto fnExactOneLandSpec)

/-- 'laws.FnExactOneDown', WHERE WHAT IT READS IS OF BULK AT MOST 1048576: true; the input reads as it did. -/
def fnExactOneDownUptoRow : OpenClaim := { program := "ytcfbfpgcfnpdgaa", sum := "89a509d085b613597fa24ba6d36846b7d0caeb7577d804a3f86cf7246a65303f", func := "loop.example/landmarch/laws.FnExactOneDown", spec := "fnExactOneDown", apart := false, narrowed := true }
def FnExactOneDownUptoSaid : Prop := fnExactOneDownUptoRow.holds Try.pinned (OpenSpec.upto fnExactOneDownSpec)

/-- 'laws.FnExactOneDo', WHERE WHAT IT READS IS OF BULK AT MOST 1048576: true; the input reads as it did. -/
def fnExactOneDoUptoRow : OpenClaim := { program := "ytcfbfpgcfnpdgaa", sum := "89a509d085b613597fa24ba6d36846b7d0caeb7577d804a3f86cf7246a65303f", func := "loop.example/landmarch/laws.FnExactOneDo", spec := "fnExactOneDo", unfollowed := true, recurses := true, apart := false, narrowed := true }
def FnExactOneDoUptoSaid : Prop := fnExactOneDoUptoRow.holds Try.pinned (OpenSpec.upto fnExactOneDoSpec)

end Rows
end Go.Proofs.Ytcfbfpgcfnpdgaa
