/-
  No cell of these rows narrows 'for every input' (looked for: loops, veiled, ifaces, maps, wideKeys, modest, calm, conditions, laid).
  DERIVED. THE GIVEN ROWS OF THIS SEAT. 12 by the template 'for every input the law returns true; each argument reads behind the call as it read before'; 0 by the template 'total and deterministic' (their statements: YtaepmhoedaogkaaTotals.lean).
  GIVEN WITH THE SEED: the statements are not yours to turn. If you find one false, say at which input.
  Laid BY PROGRAM, IN A SANDBOX (cutbox-rows.mjs): the forced cells as the released guide's own fill.sh prints them over the translation 2666e36661818f89… (all of the seat's roots in one cut). By AI agents, Wed Nov 11 2026. No macro, syntax, notation, axiom, sorry.
-/
import Derived.Test.YtaepmhoedaogkaaChecked
import GoSem.Claim
import GoSem.ClaimJoined
import GoSem.ClaimMapViews
import Derived.JoinedTies
import Derived.KernelRfl
namespace Go.Proofs.Ytaepmhoedaogkaa
/- THE CELL 'sum', in the pinned program and in every row, IS THE sha256 OF THE DUMP (.gsa) THAT YtaepmhoedaogkaaProg.lean LOADS. Nothing in Lean hashes anything: it is a label: what it is worth is what the hold of that sum in a sandbox is worth. -/
noncomputable def Try.pinned : Pinned := { name := "ytaepmhoedaogkaa", sum := "2666e36661818f8922bb7e1c2b7d6d021ce9f6be2c823ff59edc3adc31e7532a", checked := Try.checked }
namespace Rows
def none {H : Type} : Left H := { results := [], args := [] }

/-- 'laws.FnExactWlkFind': WHATEVER THE INPUT: true; the input reads as it did. -/
def fnExactWlkFindSpec : ChangeSpec := { name := "fnExactWlkFind", fn := fun _ => fun
  | [d1, d2] => { results := [.lit (.bool true)], args := [d1, d2] }
  | _ => none }
def fnExactWlkFindRow : OpenClaim := { program := "ytaepmhoedaogkaa", sum := "2666e36661818f8922bb7e1c2b7d6d021ce9f6be2c823ff59edc3adc31e7532a", func := "loop.example/landmarch/laws.FnExactWlkFind", spec := "fnExactWlkFind", unfollowed := true, recurses := true, apart := false }
def FnExactWlkFindSaid : Prop := fnExactWlkFindRow.holds Try.pinned (OpenSpec.ofChange fnExactWlkFindSpec)

/-- ITS FALSE NEIGHBOUR: 'it returns false'. Refute it at one input. -/
def fnExactWlkFindWrong : ChangeSpec := { name := "fnExactWlkFind", fn := fun _ => fun
  | [d1, d2] => { results := [.lit (.bool false)], args := [d1, d2] }
  | _ => none }
def FnExactWlkFindWrongFalsely : Prop := fnExactWlkFindRow.holds Try.pinned (OpenSpec.ofChange fnExactWlkFindWrong)

/-- 'laws.FnExactWlkOut': WHATEVER THE INPUT: true; the input reads as it did. -/
def fnExactWlkOutSpec : ChangeSpec := { name := "fnExactWlkOut", fn := fun _ => fun
  | [d1, d2] => { results := [.lit (.bool true)], args := [d1, d2] }
  | _ => none }
def fnExactWlkOutRow : OpenClaim := { program := "ytaepmhoedaogkaa", sum := "2666e36661818f8922bb7e1c2b7d6d021ce9f6be2c823ff59edc3adc31e7532a", func := "loop.example/landmarch/laws.FnExactWlkOut", spec := "fnExactWlkOut", apart := false }
def FnExactWlkOutSaid : Prop := fnExactWlkOutRow.holds Try.pinned (OpenSpec.ofChange fnExactWlkOutSpec)

/-- ITS FALSE NEIGHBOUR: 'it returns false'. Refute it at one input. -/
def fnExactWlkOutWrong : ChangeSpec := { name := "fnExactWlkOut", fn := fun _ => fun
  | [d1, d2] => { results := [.lit (.bool false)], args := [d1, d2] }
  | _ => none }
def FnExactWlkOutWrongFalsely : Prop := fnExactWlkOutRow.holds Try.pinned (OpenSpec.ofChange fnExactWlkOutWrong)

/-- 'laws.FnExactWlkPut': WHATEVER THE INPUT: true; the input reads as it did. -/
def fnExactWlkPutSpec : ChangeSpec := { name := "fnExactWlkPut", fn := fun _ => fun
  | [d1, d2] => { results := [.lit (.bool true)], args := [d1, d2] }
  | _ => none }
def fnExactWlkPutRow : OpenClaim := { program := "ytaepmhoedaogkaa", sum := "2666e36661818f8922bb7e1c2b7d6d021ce9f6be2c823ff59edc3adc31e7532a", func := "loop.example/landmarch/laws.FnExactWlkPut", spec := "fnExactWlkPut", inPlace := ["slices.overlaps[loop.example/landmarch/impl.WlkWalker]"], unfollowed := true, recurses := true, apart := false }
def FnExactWlkPutSaid : Prop := fnExactWlkPutRow.holds Try.pinned (OpenSpec.ofChange fnExactWlkPutSpec)

/-- ITS FALSE NEIGHBOUR: 'it returns false'. Refute it at one input. -/
def fnExactWlkPutWrong : ChangeSpec := { name := "fnExactWlkPut", fn := fun _ => fun
  | [d1, d2] => { results := [.lit (.bool false)], args := [d1, d2] }
  | _ => none }
def FnExactWlkPutWrongFalsely : Prop := fnExactWlkPutRow.holds Try.pinned (OpenSpec.ofChange fnExactWlkPutWrong)

/-- 'laws.FnExactPclFrom': WHATEVER THE INPUT: true; the input reads as it did. -/
def fnExactPclFromSpec : ChangeSpec := { name := "fnExactPclFrom", fn := fun _ => fun
  | [d1, d2] => { results := [.lit (.bool true)], args := [d1, d2] }
  | _ => none }
def fnExactPclFromRow : OpenClaim := { program := "ytaepmhoedaogkaa", sum := "2666e36661818f8922bb7e1c2b7d6d021ce9f6be2c823ff59edc3adc31e7532a", func := "loop.example/landmarch/laws.FnExactPclFrom", spec := "fnExactPclFrom", apart := false }
def FnExactPclFromSaid : Prop := fnExactPclFromRow.holds Try.pinned (OpenSpec.ofChange fnExactPclFromSpec)

/-- ITS FALSE NEIGHBOUR: 'it returns false'. Refute it at one input. -/
def fnExactPclFromWrong : ChangeSpec := { name := "fnExactPclFrom", fn := fun _ => fun
  | [d1, d2] => { results := [.lit (.bool false)], args := [d1, d2] }
  | _ => none }
def FnExactPclFromWrongFalsely : Prop := fnExactPclFromRow.holds Try.pinned (OpenSpec.ofChange fnExactPclFromWrong)

/-- 'laws.FnExactLogCount': WHATEVER THE INPUT: true; the input reads as it did. -/
def fnExactLogCountSpec : ChangeSpec := { name := "fnExactLogCount", fn := fun _ => fun
  | [d1, d2, d3] => { results := [.lit (.bool true)], args := [d1, d2, d3] }
  | _ => none }
def fnExactLogCountRow : OpenClaim := { program := "ytaepmhoedaogkaa", sum := "2666e36661818f8922bb7e1c2b7d6d021ce9f6be2c823ff59edc3adc31e7532a", func := "loop.example/landmarch/laws.FnExactLogCount", spec := "fnExactLogCount", apart := false }
def FnExactLogCountSaid : Prop := fnExactLogCountRow.holds Try.pinned (OpenSpec.ofChange fnExactLogCountSpec)

/-- ITS FALSE NEIGHBOUR: 'it returns false'. Refute it at one input. -/
def fnExactLogCountWrong : ChangeSpec := { name := "fnExactLogCount", fn := fun _ => fun
  | [d1, d2, d3] => { results := [.lit (.bool false)], args := [d1, d2, d3] }
  | _ => none }
def FnExactLogCountWrongFalsely : Prop := fnExactLogCountRow.holds Try.pinned (OpenSpec.ofChange fnExactLogCountWrong)

/-- 'laws.FnExactArbServer': WHATEVER THE INPUT: true; the input reads as it did. -/
def fnExactArbServerSpec : ChangeSpec := { name := "fnExactArbServer", fn := fun _ => fun
  | [d1, d2] => { results := [.lit (.bool true)], args := [d1, d2] }
  | _ => none }
def fnExactArbServerRow : OpenClaim := { program := "ytaepmhoedaogkaa", sum := "2666e36661818f8922bb7e1c2b7d6d021ce9f6be2c823ff59edc3adc31e7532a", func := "loop.example/landmarch/laws.FnExactArbServer", spec := "fnExactArbServer", apart := false }
def FnExactArbServerSaid : Prop := fnExactArbServerRow.holds Try.pinned (OpenSpec.ofChange fnExactArbServerSpec)

/-- ITS FALSE NEIGHBOUR: 'it returns false'. Refute it at one input. -/
def fnExactArbServerWrong : ChangeSpec := { name := "fnExactArbServer", fn := fun _ => fun
  | [d1, d2] => { results := [.lit (.bool false)], args := [d1, d2] }
  | _ => none }
def FnExactArbServerWrongFalsely : Prop := fnExactArbServerRow.holds Try.pinned (OpenSpec.ofChange fnExactArbServerWrong)

/-- 'laws.FnExactArbOk': WHATEVER THE INPUT: true; the input reads as it did. -/
def fnExactArbOkSpec : ChangeSpec := { name := "fnExactArbOk", fn := fun _ => fun
  | [d1, d2, d3] => { results := [.lit (.bool true)], args := [d1, d2, d3] }
  | _ => none }
def fnExactArbOkRow : OpenClaim := { program := "ytaepmhoedaogkaa", sum := "2666e36661818f8922bb7e1c2b7d6d021ce9f6be2c823ff59edc3adc31e7532a", func := "loop.example/landmarch/laws.FnExactArbOk", spec := "fnExactArbOk", apart := false }
def FnExactArbOkSaid : Prop := fnExactArbOkRow.holds Try.pinned (OpenSpec.ofChange fnExactArbOkSpec)

/-- ITS FALSE NEIGHBOUR: 'it returns false'. Refute it at one input. -/
def fnExactArbOkWrong : ChangeSpec := { name := "fnExactArbOk", fn := fun _ => fun
  | [d1, d2, d3] => { results := [.lit (.bool false)], args := [d1, d2, d3] }
  | _ => none }
def FnExactArbOkWrongFalsely : Prop := fnExactArbOkRow.holds Try.pinned (OpenSpec.ofChange fnExactArbOkWrong)

/-- 'laws.FnExactArbNew': WHATEVER THE INPUT: true; the input reads as it did. -/
def fnExactArbNewSpec : ChangeSpec := { name := "fnExactArbNew", fn := fun _ => fun
  | [d] => { results := [.lit (.bool true)], args := [d] }
  | _ => none }
def fnExactArbNewRow : OpenClaim := { program := "ytaepmhoedaogkaa", sum := "2666e36661818f8922bb7e1c2b7d6d021ce9f6be2c823ff59edc3adc31e7532a", func := "loop.example/landmarch/laws.FnExactArbNew", spec := "fnExactArbNew", apart := false }
def FnExactArbNewSaid : Prop := fnExactArbNewRow.holds Try.pinned (OpenSpec.ofChange fnExactArbNewSpec)

/-- ITS FALSE NEIGHBOUR: 'it returns false'. Refute it at one input. -/
def fnExactArbNewWrong : ChangeSpec := { name := "fnExactArbNew", fn := fun _ => fun
  | [d] => { results := [.lit (.bool false)], args := [d] }
  | _ => none }
def FnExactArbNewWrongFalsely : Prop := fnExactArbNewRow.holds Try.pinned (OpenSpec.ofChange fnExactArbNewWrong)

/-- 'laws.FnExactArbGrant': WHATEVER THE INPUT: true; the input reads as it did. -/
def fnExactArbGrantSpec : ChangeSpec := { name := "fnExactArbGrant", fn := fun _ => fun
  | [d1, d2, d3, d4, d5] => { results := [.lit (.bool true)], args := [d1, d2, d3, d4, d5] }
  | _ => none }
def fnExactArbGrantRow : OpenClaim := { program := "ytaepmhoedaogkaa", sum := "2666e36661818f8922bb7e1c2b7d6d021ce9f6be2c823ff59edc3adc31e7532a", func := "loop.example/landmarch/laws.FnExactArbGrant", spec := "fnExactArbGrant", apart := false }
def FnExactArbGrantSaid : Prop := fnExactArbGrantRow.holds Try.pinned (OpenSpec.ofChange fnExactArbGrantSpec)

/-- ITS FALSE NEIGHBOUR: 'it returns false'. Refute it at one input. -/
def fnExactArbGrantWrong : ChangeSpec := { name := "fnExactArbGrant", fn := fun _ => fun
  | [d1, d2, d3, d4, d5] => { results := [.lit (.bool false)], args := [d1, d2, d3, d4, d5] }
  | _ => none }
def FnExactArbGrantWrongFalsely : Prop := fnExactArbGrantRow.holds Try.pinned (OpenSpec.ofChange fnExactArbGrantWrong)

/-- 'laws.FnExactGwyOk': WHATEVER THE INPUT: true; the input reads as it did. -/
def fnExactGwyOkSpec : ChangeSpec := { name := "fnExactGwyOk", fn := fun _ => fun
  | [d1, d2] => { results := [.lit (.bool true)], args := [d1, d2] }
  | _ => none }
def fnExactGwyOkRow : OpenClaim := { program := "ytaepmhoedaogkaa", sum := "2666e36661818f8922bb7e1c2b7d6d021ce9f6be2c823ff59edc3adc31e7532a", func := "loop.example/landmarch/laws.FnExactGwyOk", spec := "fnExactGwyOk", apart := false }
def FnExactGwyOkSaid : Prop := fnExactGwyOkRow.holds Try.pinned (OpenSpec.ofChange fnExactGwyOkSpec)

/-- ITS FALSE NEIGHBOUR: 'it returns false'. Refute it at one input. -/
def fnExactGwyOkWrong : ChangeSpec := { name := "fnExactGwyOk", fn := fun _ => fun
  | [d1, d2] => { results := [.lit (.bool false)], args := [d1, d2] }
  | _ => none }
def FnExactGwyOkWrongFalsely : Prop := fnExactGwyOkRow.holds Try.pinned (OpenSpec.ofChange fnExactGwyOkWrong)

/-- 'laws.FnExactGwyNew': WHATEVER THE INPUT: true; the input reads as it did. -/
def fnExactGwyNewSpec : ChangeSpec := { name := "fnExactGwyNew", fn := fun _ => fun
  | [d1, d2] => { results := [.lit (.bool true)], args := [d1, d2] }
  | _ => none }
def fnExactGwyNewRow : OpenClaim := { program := "ytaepmhoedaogkaa", sum := "2666e36661818f8922bb7e1c2b7d6d021ce9f6be2c823ff59edc3adc31e7532a", func := "loop.example/landmarch/laws.FnExactGwyNew", spec := "fnExactGwyNew", apart := false }
def FnExactGwyNewSaid : Prop := fnExactGwyNewRow.holds Try.pinned (OpenSpec.ofChange fnExactGwyNewSpec)

/-- ITS FALSE NEIGHBOUR: 'it returns false'. Refute it at one input. -/
def fnExactGwyNewWrong : ChangeSpec := { name := "fnExactGwyNew", fn := fun _ => fun
  | [d1, d2] => { results := [.lit (.bool false)], args := [d1, d2] }
  | _ => none }
def FnExactGwyNewWrongFalsely : Prop := fnExactGwyNewRow.holds Try.pinned (OpenSpec.ofChange fnExactGwyNewWrong)

/-- 'laws.FnExactGwyAsk': WHATEVER THE INPUT: true; the input reads as it did. -/
def fnExactGwyAskSpec : ChangeSpec := { name := "fnExactGwyAsk", fn := fun _ => fun
  | [d1, d2, d3, d4, d5, d6] => { results := [.lit (.bool true)], args := [d1, d2, d3, d4, d5, d6] }
  | _ => none }
def fnExactGwyAskRow : OpenClaim := { program := "ytaepmhoedaogkaa", sum := "2666e36661818f8922bb7e1c2b7d6d021ce9f6be2c823ff59edc3adc31e7532a", func := "loop.example/landmarch/laws.FnExactGwyAsk", spec := "fnExactGwyAsk", unfollowed := true, recurses := true, apart := false }
def FnExactGwyAskSaid : Prop := fnExactGwyAskRow.holds Try.pinned (OpenSpec.ofChange fnExactGwyAskSpec)

/-- ITS FALSE NEIGHBOUR: 'it returns false'. Refute it at one input. -/
def fnExactGwyAskWrong : ChangeSpec := { name := "fnExactGwyAsk", fn := fun _ => fun
  | [d1, d2, d3, d4, d5, d6] => { results := [.lit (.bool false)], args := [d1, d2, d3, d4, d5, d6] }
  | _ => none }
def FnExactGwyAskWrongFalsely : Prop := fnExactGwyAskRow.holds Try.pinned (OpenSpec.ofChange fnExactGwyAskWrong)

/- THE SECOND FORM. 'bulk': how many values and letters a reading holds, each counted each time it is reached (what is shared counts as often as it is met; a slice's spare places count too). A statement '..UptoSaid' is the law's where the arguments, and the package variables that the reading takes, are together of bulk at most 1048576: NARROWER than '..Said'. Prove '..Said' where nothing that the law and all that it calls make is longer than what came in: it says more and counts as full. Else prove '..UptoSaid'. A law counts once. -/
mutual
def uptoBulk {H : Type} : DataW H → Nat
  | .lit (.string bytes) => bytes.length + 1
  | .lit _ => 1
  | .nil => 1
  | .ptr d => uptoBulk d + 1
  | .slice elems spare => uptoBulkAll elems + uptoBulkAll spare + 1
  | .agg parts => uptoBulkAll parts + 1
  | .iface _ d => uptoBulk d + 1
  | .map entries => uptoBulkEntries entries + 1
  | .held _ => 1
def uptoBulkAll {H : Type} : List (DataW H) → Nat
  | [] => 0
  | d :: r => uptoBulk d + uptoBulkAll r
def uptoBulkEntries {H : Type} : List (Lit × DataW H) → Nat
  | [] => 0
  | x :: r => uptoBulkEntry x + uptoBulkEntries r
def uptoBulkEntry {H : Type} : Lit × DataW H → Nat
  | (.string bytes, d) => bytes.length + uptoBulk d + 1
  | (_, d) => uptoBulk d + 1
 end
def uptoSmall : (H : Type) → List (DataW H) → Bool := fun _ ds => decide (uptoBulkAll ds ≤ 1048576)
def OpenSpec.upto (s : _root_.Go.ChangeSpec) : _root_.Go.OpenSpec := { _root_.Go.OpenSpec.ofChange s with cond := some uptoSmall }

/-- 'laws.FnExactWlkFind', WHERE WHAT IT READS IS OF BULK AT MOST 1048576: true; the input reads as it did. -/
def fnExactWlkFindUptoRow : OpenClaim := { program := "ytaepmhoedaogkaa", sum := "2666e36661818f8922bb7e1c2b7d6d021ce9f6be2c823ff59edc3adc31e7532a", func := "loop.example/landmarch/laws.FnExactWlkFind", spec := "fnExactWlkFind", unfollowed := true, recurses := true, apart := false, narrowed := true }
def FnExactWlkFindUptoSaid : Prop := fnExactWlkFindUptoRow.holds Try.pinned (OpenSpec.upto fnExactWlkFindSpec)

/-- 'laws.FnExactWlkOut', WHERE WHAT IT READS IS OF BULK AT MOST 1048576: true; the input reads as it did. -/
def fnExactWlkOutUptoRow : OpenClaim := { program := "ytaepmhoedaogkaa", sum := "2666e36661818f8922bb7e1c2b7d6d021ce9f6be2c823ff59edc3adc31e7532a", func := "loop.example/landmarch/laws.FnExactWlkOut", spec := "fnExactWlkOut", apart := false, narrowed := true }
def FnExactWlkOutUptoSaid : Prop := fnExactWlkOutUptoRow.holds Try.pinned (OpenSpec.upto fnExactWlkOutSpec)

/-- 'laws.FnExactWlkPut', WHERE WHAT IT READS IS OF BULK AT MOST 1048576: true; the input reads as it did. -/
def fnExactWlkPutUptoRow : OpenClaim := { program := "ytaepmhoedaogkaa", sum := "2666e36661818f8922bb7e1c2b7d6d021ce9f6be2c823ff59edc3adc31e7532a", func := "loop.example/landmarch/laws.FnExactWlkPut", spec := "fnExactWlkPut", inPlace := ["slices.overlaps[loop.example/landmarch/impl.WlkWalker]"], unfollowed := true, recurses := true, apart := false, narrowed := true }
def FnExactWlkPutUptoSaid : Prop := fnExactWlkPutUptoRow.holds Try.pinned (OpenSpec.upto fnExactWlkPutSpec)

/-- 'laws.FnExactPclFrom', WHERE WHAT IT READS IS OF BULK AT MOST 1048576: true; the input reads as it did. -/
def fnExactPclFromUptoRow : OpenClaim := { program := "ytaepmhoedaogkaa", sum := "2666e36661818f8922bb7e1c2b7d6d021ce9f6be2c823ff59edc3adc31e7532a", func := "loop.example/landmarch/laws.FnExactPclFrom", spec := "fnExactPclFrom", apart := false, narrowed := true }
def FnExactPclFromUptoSaid : Prop := fnExactPclFromUptoRow.holds Try.pinned (OpenSpec.upto fnExactPclFromSpec)

/-- 'laws.FnExactLogCount', WHERE WHAT IT READS IS OF BULK AT MOST 1048576: true; the input reads as it did. -/
def fnExactLogCountUptoRow : OpenClaim := { program := "ytaepmhoedaogkaa", sum := "2666e36661818f8922bb7e1c2b7d6d021ce9f6be2c823ff59edc3adc31e7532a", func := "loop.example/landmarch/laws.FnExactLogCount", spec := "fnExactLogCount", apart := false, narrowed := true }
def FnExactLogCountUptoSaid : Prop := fnExactLogCountUptoRow.holds Try.pinned (OpenSpec.upto fnExactLogCountSpec)

/-- 'laws.FnExactArbServer', WHERE WHAT IT READS IS OF BULK AT MOST 1048576: true; the input reads as it did. -/
def fnExactArbServerUptoRow : OpenClaim := { program := "ytaepmhoedaogkaa", sum := "2666e36661818f8922bb7e1c2b7d6d021ce9f6be2c823ff59edc3adc31e7532a", func := "loop.example/landmarch/laws.FnExactArbServer", spec := "fnExactArbServer", apart := false, narrowed := true }
def FnExactArbServerUptoSaid : Prop := fnExactArbServerUptoRow.holds Try.pinned (OpenSpec.upto fnExactArbServerSpec)

/-- 'laws.FnExactArbOk', WHERE WHAT IT READS IS OF BULK AT MOST 1048576: true; the input reads as it did. -/
def fnExactArbOkUptoRow : OpenClaim := { program := "ytaepmhoedaogkaa", sum := "2666e36661818f8922bb7e1c2b7d6d021ce9f6be2c823ff59edc3adc31e7532a", func := "loop.example/landmarch/laws.FnExactArbOk", spec := "fnExactArbOk", apart := false, narrowed := true }
def FnExactArbOkUptoSaid : Prop := fnExactArbOkUptoRow.holds Try.pinned (OpenSpec.upto fnExactArbOkSpec)

/-- 'laws.FnExactArbNew', WHERE WHAT IT READS IS OF BULK AT MOST 1048576: true; the input reads as it did. -/
def fnExactArbNewUptoRow : OpenClaim := { program := "ytaepmhoedaogkaa", sum := "2666e36661818f8922bb7e1c2b7d6d021ce9f6be2c823ff59edc3adc31e7532a", func := "loop.example/landmarch/laws.FnExactArbNew", spec := "fnExactArbNew", apart := false, narrowed := true }
def FnExactArbNewUptoSaid : Prop := fnExactArbNewUptoRow.holds Try.pinned (OpenSpec.upto fnExactArbNewSpec)

/-- 'laws.FnExactArbGrant', WHERE WHAT IT READS IS OF BULK AT MOST 1048576: true; the input reads as it did. -/
def fnExactArbGrantUptoRow : OpenClaim := { program := "ytaepmhoedaogkaa", sum := "2666e36661818f8922bb7e1c2b7d6d021ce9f6be2c823ff59edc3adc31e7532a", func := "loop.example/landmarch/laws.FnExactArbGrant", spec := "fnExactArbGrant", apart := false, narrowed := true }
def FnExactArbGrantUptoSaid : Prop := fnExactArbGrantUptoRow.holds Try.pinned (OpenSpec.upto fnExactArbGrantSpec)

/-- 'laws.FnExactGwyOk', WHERE WHAT IT READS IS OF BULK AT MOST 1048576: true; the input reads as it did. -/
def fnExactGwyOkUptoRow : OpenClaim := { program := "ytaepmhoedaogkaa", sum := "2666e36661818f8922bb7e1c2b7d6d021ce9f6be2c823ff59edc3adc31e7532a", func := "loop.example/landmarch/laws.FnExactGwyOk", spec := "fnExactGwyOk", apart := false, narrowed := true }
def FnExactGwyOkUptoSaid : Prop := fnExactGwyOkUptoRow.holds Try.pinned (OpenSpec.upto fnExactGwyOkSpec)

/-- 'laws.FnExactGwyNew', WHERE WHAT IT READS IS OF BULK AT MOST 1048576: true; the input reads as it did. -/
def fnExactGwyNewUptoRow : OpenClaim := { program := "ytaepmhoedaogkaa", sum := "2666e36661818f8922bb7e1c2b7d6d021ce9f6be2c823ff59edc3adc31e7532a", func := "loop.example/landmarch/laws.FnExactGwyNew", spec := "fnExactGwyNew", apart := false, narrowed := true }
def FnExactGwyNewUptoSaid : Prop := fnExactGwyNewUptoRow.holds Try.pinned (OpenSpec.upto fnExactGwyNewSpec)

/-- 'laws.FnExactGwyAsk', WHERE WHAT IT READS IS OF BULK AT MOST 1048576: true; the input reads as it did. -/
def fnExactGwyAskUptoRow : OpenClaim := { program := "ytaepmhoedaogkaa", sum := "2666e36661818f8922bb7e1c2b7d6d021ce9f6be2c823ff59edc3adc31e7532a", func := "loop.example/landmarch/laws.FnExactGwyAsk", spec := "fnExactGwyAsk", unfollowed := true, recurses := true, apart := false, narrowed := true }
def FnExactGwyAskUptoSaid : Prop := fnExactGwyAskUptoRow.holds Try.pinned (OpenSpec.upto fnExactGwyAskSpec)

end Rows
end Go.Proofs.Ytaepmhoedaogkaa
