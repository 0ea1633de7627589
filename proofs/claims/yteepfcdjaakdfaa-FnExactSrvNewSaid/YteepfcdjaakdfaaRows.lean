/-
  No cell of these rows narrows 'for every input' (looked for: loops, veiled, ifaces, maps, wideKeys, modest, calm, conditions, laid).
  DERIVED. THE GIVEN ROWS OF THIS SEAT. 12 by the template 'for every input the law returns true; each argument reads behind the call as it read before'; 0 by the template 'total and deterministic' (their statements: YteepfcdjaakdfaaTotals.lean).
  GIVEN WITH THE SEED: the statements are not yours to turn. If you find one false, say at which input.
  Laid BY PROGRAM, IN A SANDBOX (cutbox-rows.mjs): the forced cells as the released guide's own fill.sh prints them over the translation 42580a68ca30e70a… (all of the seat's roots in one cut). By AI agents, Wed Nov 11 2026. No macro, syntax, notation, axiom, sorry.
-/
import Derived.Test.YteepfcdjaakdfaaChecked
import GoSem.Claim
import GoSem.ClaimJoined
import GoSem.ClaimMapViews
import Derived.JoinedTies
import Derived.KernelRfl
namespace Go.Proofs.Yteepfcdjaakdfaa
/- THE CELL 'sum', in the pinned program and in every row, IS THE sha256 OF THE DUMP (.gsa) THAT YteepfcdjaakdfaaProg.lean LOADS. Nothing in Lean hashes anything: it is a label: what it is worth is what the hold of that sum in a sandbox is worth. -/
noncomputable def Try.pinned : Pinned := { name := "yteepfcdjaakdfaa", sum := "42580a68ca30e70ad47e4b29e39274478c45ab9482c0f1b9a9f2836b25c9fd71", checked := Try.checked }
namespace Rows
def none {H : Type} : Left H := { results := [], args := [] }

/-- 'laws.FnExactCllOk': WHATEVER THE INPUT: true; the input reads as it did. -/
def fnExactCllOkSpec : ChangeSpec := { name := "fnExactCllOk", fn := fun _ => fun
  | [d1, d2] => { results := [.lit (.bool true)], args := [d1, d2] }
  | _ => none }
def fnExactCllOkRow : OpenClaim := { program := "yteepfcdjaakdfaa", sum := "42580a68ca30e70ad47e4b29e39274478c45ab9482c0f1b9a9f2836b25c9fd71", func := "loop.example/landmarch/laws.FnExactCllOk", spec := "fnExactCllOk", apart := false }
def FnExactCllOkSaid : Prop := fnExactCllOkRow.holds Try.pinned (OpenSpec.ofChange fnExactCllOkSpec)

/-- ITS FALSE NEIGHBOUR: 'it returns false'. Refute it at one input. -/
def fnExactCllOkWrong : ChangeSpec := { name := "fnExactCllOk", fn := fun _ => fun
  | [d1, d2] => { results := [.lit (.bool false)], args := [d1, d2] }
  | _ => none }
def FnExactCllOkWrongFalsely : Prop := fnExactCllOkRow.holds Try.pinned (OpenSpec.ofChange fnExactCllOkWrong)

/-- 'laws.FnExactCllFresh': WHATEVER THE INPUT: true; the input reads as it did. -/
def fnExactCllFreshSpec : ChangeSpec := { name := "fnExactCllFresh", fn := fun _ => fun
  | [d1, d2, d3] => { results := [.lit (.bool true)], args := [d1, d2, d3] }
  | _ => none }
def fnExactCllFreshRow : OpenClaim := { program := "yteepfcdjaakdfaa", sum := "42580a68ca30e70ad47e4b29e39274478c45ab9482c0f1b9a9f2836b25c9fd71", func := "loop.example/landmarch/laws.FnExactCllFresh", spec := "fnExactCllFresh", unfollowed := true, recurses := true, apart := false }
def FnExactCllFreshSaid : Prop := fnExactCllFreshRow.holds Try.pinned (OpenSpec.ofChange fnExactCllFreshSpec)

/-- ITS FALSE NEIGHBOUR: 'it returns false'. Refute it at one input. -/
def fnExactCllFreshWrong : ChangeSpec := { name := "fnExactCllFresh", fn := fun _ => fun
  | [d1, d2, d3] => { results := [.lit (.bool false)], args := [d1, d2, d3] }
  | _ => none }
def FnExactCllFreshWrongFalsely : Prop := fnExactCllFreshRow.holds Try.pinned (OpenSpec.ofChange fnExactCllFreshWrong)

/-- 'laws.FnExactCllCoins': WHATEVER THE INPUT: true; the input reads as it did. -/
def fnExactCllCoinsSpec : ChangeSpec := { name := "fnExactCllCoins", fn := fun _ => fun
  | [d1, d2] => { results := [.lit (.bool true)], args := [d1, d2] }
  | _ => none }
def fnExactCllCoinsRow : OpenClaim := { program := "yteepfcdjaakdfaa", sum := "42580a68ca30e70ad47e4b29e39274478c45ab9482c0f1b9a9f2836b25c9fd71", func := "loop.example/landmarch/laws.FnExactCllCoins", spec := "fnExactCllCoins", apart := false }
def FnExactCllCoinsSaid : Prop := fnExactCllCoinsRow.holds Try.pinned (OpenSpec.ofChange fnExactCllCoinsSpec)

/-- ITS FALSE NEIGHBOUR: 'it returns false'. Refute it at one input. -/
def fnExactCllCoinsWrong : ChangeSpec := { name := "fnExactCllCoins", fn := fun _ => fun
  | [d1, d2] => { results := [.lit (.bool false)], args := [d1, d2] }
  | _ => none }
def FnExactCllCoinsWrongFalsely : Prop := fnExactCllCoinsRow.holds Try.pinned (OpenSpec.ofChange fnExactCllCoinsWrong)

/-- 'laws.FnExactHldOk': WHATEVER THE INPUT: true; the input reads as it did. -/
def fnExactHldOkSpec : ChangeSpec := { name := "fnExactHldOk", fn := fun _ => fun
  | [d1, d2] => { results := [.lit (.bool true)], args := [d1, d2] }
  | _ => none }
def fnExactHldOkRow : OpenClaim := { program := "yteepfcdjaakdfaa", sum := "42580a68ca30e70ad47e4b29e39274478c45ab9482c0f1b9a9f2836b25c9fd71", func := "loop.example/landmarch/laws.FnExactHldOk", spec := "fnExactHldOk", apart := false }
def FnExactHldOkSaid : Prop := fnExactHldOkRow.holds Try.pinned (OpenSpec.ofChange fnExactHldOkSpec)

/-- ITS FALSE NEIGHBOUR: 'it returns false'. Refute it at one input. -/
def fnExactHldOkWrong : ChangeSpec := { name := "fnExactHldOk", fn := fun _ => fun
  | [d1, d2] => { results := [.lit (.bool false)], args := [d1, d2] }
  | _ => none }
def FnExactHldOkWrongFalsely : Prop := fnExactHldOkRow.holds Try.pinned (OpenSpec.ofChange fnExactHldOkWrong)

/-- 'laws.FnExactSrvNew': WHATEVER THE INPUT: true; the input reads as it did. -/
def fnExactSrvNewSpec : ChangeSpec := { name := "fnExactSrvNew", fn := fun _ => fun
  | [] => { results := [.lit (.bool true)], args := [] }
  | _ => none }
def fnExactSrvNewRow : OpenClaim := { program := "yteepfcdjaakdfaa", sum := "42580a68ca30e70ad47e4b29e39274478c45ab9482c0f1b9a9f2836b25c9fd71", func := "loop.example/landmarch/laws.FnExactSrvNew", spec := "fnExactSrvNew", apart := false }
def FnExactSrvNewSaid : Prop := fnExactSrvNewRow.holds Try.pinned (OpenSpec.ofChange fnExactSrvNewSpec)

/-- ITS FALSE NEIGHBOUR: 'it returns false'. Refute it at one input. -/
def fnExactSrvNewWrong : ChangeSpec := { name := "fnExactSrvNew", fn := fun _ => fun
  | [] => { results := [.lit (.bool false)], args := [] }
  | _ => none }
def FnExactSrvNewWrongFalsely : Prop := fnExactSrvNewRow.holds Try.pinned (OpenSpec.ofChange fnExactSrvNewWrong)

/-- 'laws.FnExactSrvOk': WHATEVER THE INPUT: true; the input reads as it did. -/
def fnExactSrvOkSpec : ChangeSpec := { name := "fnExactSrvOk", fn := fun _ => fun
  | [d1, d2] => { results := [.lit (.bool true)], args := [d1, d2] }
  | _ => none }
def fnExactSrvOkRow : OpenClaim := { program := "yteepfcdjaakdfaa", sum := "42580a68ca30e70ad47e4b29e39274478c45ab9482c0f1b9a9f2836b25c9fd71", func := "loop.example/landmarch/laws.FnExactSrvOk", spec := "fnExactSrvOk", apart := false }
def FnExactSrvOkSaid : Prop := fnExactSrvOkRow.holds Try.pinned (OpenSpec.ofChange fnExactSrvOkSpec)

/-- ITS FALSE NEIGHBOUR: 'it returns false'. Refute it at one input. -/
def fnExactSrvOkWrong : ChangeSpec := { name := "fnExactSrvOk", fn := fun _ => fun
  | [d1, d2] => { results := [.lit (.bool false)], args := [d1, d2] }
  | _ => none }
def FnExactSrvOkWrongFalsely : Prop := fnExactSrvOkRow.holds Try.pinned (OpenSpec.ofChange fnExactSrvOkWrong)

/-- 'laws.FnExactOneOk': WHATEVER THE INPUT: true; the input reads as it did. -/
def fnExactOneOkSpec : ChangeSpec := { name := "fnExactOneOk", fn := fun _ => fun
  | [d] => { results := [.lit (.bool true)], args := [d] }
  | _ => none }
def fnExactOneOkRow : OpenClaim := { program := "yteepfcdjaakdfaa", sum := "42580a68ca30e70ad47e4b29e39274478c45ab9482c0f1b9a9f2836b25c9fd71", func := "loop.example/landmarch/laws.FnExactOneOk", spec := "fnExactOneOk", apart := false }
def FnExactOneOkSaid : Prop := fnExactOneOkRow.holds Try.pinned (OpenSpec.ofChange fnExactOneOkSpec)

/-- ITS FALSE NEIGHBOUR: 'it returns false'. Refute it at one input. -/
def fnExactOneOkWrong : ChangeSpec := { name := "fnExactOneOk", fn := fun _ => fun
  | [d] => { results := [.lit (.bool false)], args := [d] }
  | _ => none }
def FnExactOneOkWrongFalsely : Prop := fnExactOneOkRow.holds Try.pinned (OpenSpec.ofChange fnExactOneOkWrong)

/-- 'laws.FnExactOneCoins': WHATEVER THE INPUT: true; the input reads as it did. -/
def fnExactOneCoinsSpec : ChangeSpec := { name := "fnExactOneCoins", fn := fun _ => fun
  | [d] => { results := [.lit (.bool true)], args := [d] }
  | _ => none }
def fnExactOneCoinsRow : OpenClaim := { program := "yteepfcdjaakdfaa", sum := "42580a68ca30e70ad47e4b29e39274478c45ab9482c0f1b9a9f2836b25c9fd71", func := "loop.example/landmarch/laws.FnExactOneCoins", spec := "fnExactOneCoins", apart := false }
def FnExactOneCoinsSaid : Prop := fnExactOneCoinsRow.holds Try.pinned (OpenSpec.ofChange fnExactOneCoinsSpec)

/-- ITS FALSE NEIGHBOUR: 'it returns false'. Refute it at one input. -/
def fnExactOneCoinsWrong : ChangeSpec := { name := "fnExactOneCoins", fn := fun _ => fun
  | [d] => { results := [.lit (.bool false)], args := [d] }
  | _ => none }
def FnExactOneCoinsWrongFalsely : Prop := fnExactOneCoinsRow.holds Try.pinned (OpenSpec.ofChange fnExactOneCoinsWrong)

/-- 'laws.FnExactCllNew': WHATEVER THE INPUT: true; the input reads as it did. -/
def fnExactCllNewSpec : ChangeSpec := { name := "fnExactCllNew", fn := fun _ => fun
  | [d1, d2, d3] => { results := [.lit (.bool true)], args := [d1, d2, d3] }
  | _ => none }
def fnExactCllNewRow : OpenClaim := { program := "yteepfcdjaakdfaa", sum := "42580a68ca30e70ad47e4b29e39274478c45ab9482c0f1b9a9f2836b25c9fd71", func := "loop.example/landmarch/laws.FnExactCllNew", spec := "fnExactCllNew", apart := false }
def FnExactCllNewSaid : Prop := fnExactCllNewRow.holds Try.pinned (OpenSpec.ofChange fnExactCllNewSpec)

/-- ITS FALSE NEIGHBOUR: 'it returns false'. Refute it at one input. -/
def fnExactCllNewWrong : ChangeSpec := { name := "fnExactCllNew", fn := fun _ => fun
  | [d1, d2, d3] => { results := [.lit (.bool false)], args := [d1, d2, d3] }
  | _ => none }
def FnExactCllNewWrongFalsely : Prop := fnExactCllNewRow.holds Try.pinned (OpenSpec.ofChange fnExactCllNewWrong)

/-- 'laws.FnExactStoNew': WHATEVER THE INPUT: true; the input reads as it did. -/
def fnExactStoNewSpec : ChangeSpec := { name := "fnExactStoNew", fn := fun _ => fun
  | [d1, d2, d3] => { results := [.lit (.bool true)], args := [d1, d2, d3] }
  | _ => none }
def fnExactStoNewRow : OpenClaim := { program := "yteepfcdjaakdfaa", sum := "42580a68ca30e70ad47e4b29e39274478c45ab9482c0f1b9a9f2836b25c9fd71", func := "loop.example/landmarch/laws.FnExactStoNew", spec := "fnExactStoNew", apart := false }
def FnExactStoNewSaid : Prop := fnExactStoNewRow.holds Try.pinned (OpenSpec.ofChange fnExactStoNewSpec)

/-- ITS FALSE NEIGHBOUR: 'it returns false'. Refute it at one input. -/
def fnExactStoNewWrong : ChangeSpec := { name := "fnExactStoNew", fn := fun _ => fun
  | [d1, d2, d3] => { results := [.lit (.bool false)], args := [d1, d2, d3] }
  | _ => none }
def FnExactStoNewWrongFalsely : Prop := fnExactStoNewRow.holds Try.pinned (OpenSpec.ofChange fnExactStoNewWrong)

/-- 'laws.FnExactSrvHold': WHATEVER THE INPUT: true; the input reads as it did. -/
def fnExactSrvHoldSpec : ChangeSpec := { name := "fnExactSrvHold", fn := fun _ => fun
  | [d1, d2] => { results := [.lit (.bool true)], args := [d1, d2] }
  | _ => none }
def fnExactSrvHoldRow : OpenClaim := { program := "yteepfcdjaakdfaa", sum := "42580a68ca30e70ad47e4b29e39274478c45ab9482c0f1b9a9f2836b25c9fd71", func := "loop.example/landmarch/laws.FnExactSrvHold", spec := "fnExactSrvHold", unfollowed := true, recurses := true, apart := false }
def FnExactSrvHoldSaid : Prop := fnExactSrvHoldRow.holds Try.pinned (OpenSpec.ofChange fnExactSrvHoldSpec)

/-- ITS FALSE NEIGHBOUR: 'it returns false'. Refute it at one input. -/
def fnExactSrvHoldWrong : ChangeSpec := { name := "fnExactSrvHold", fn := fun _ => fun
  | [d1, d2] => { results := [.lit (.bool false)], args := [d1, d2] }
  | _ => none }
def FnExactSrvHoldWrongFalsely : Prop := fnExactSrvHoldRow.holds Try.pinned (OpenSpec.ofChange fnExactSrvHoldWrong)

/-- 'laws.FnExactCllAck': WHATEVER THE INPUT: true; the input reads as it did. -/
def fnExactCllAckSpec : ChangeSpec := { name := "fnExactCllAck", fn := fun _ => fun
  | [d1, d2, d3, d4] => { results := [.lit (.bool true)], args := [d1, d2, d3, d4] }
  | _ => none }
def fnExactCllAckRow : OpenClaim := { program := "yteepfcdjaakdfaa", sum := "42580a68ca30e70ad47e4b29e39274478c45ab9482c0f1b9a9f2836b25c9fd71", func := "loop.example/landmarch/laws.FnExactCllAck", spec := "fnExactCllAck", apart := false }
def FnExactCllAckSaid : Prop := fnExactCllAckRow.holds Try.pinned (OpenSpec.ofChange fnExactCllAckSpec)

/-- ITS FALSE NEIGHBOUR: 'it returns false'. Refute it at one input. -/
def fnExactCllAckWrong : ChangeSpec := { name := "fnExactCllAck", fn := fun _ => fun
  | [d1, d2, d3, d4] => { results := [.lit (.bool false)], args := [d1, d2, d3, d4] }
  | _ => none }
def FnExactCllAckWrongFalsely : Prop := fnExactCllAckRow.holds Try.pinned (OpenSpec.ofChange fnExactCllAckWrong)

/- THE SECOND FORM. 'bulk': how many values and letters a reading holds, each counted each time it is reached (what is shared counts as often as it is met; a slice's spare places count too). A statement '..UptoSaid' is the law's where the arguments, and the package variables that the reading takes, are together of bulk at most 1048576: NARROWER than '..Said'. Prove '..Said' where nothing that the law and all that it calls make is longer than what came in: it says more and counts as full. Else prove '..UptoSaid'. A law counts once. -/
mutual
def uptoBulk {H : Type} : DataW H → Nat
  | .lit (.string bytes) => bytes.length + 1
  | .lit _ => 1
  | .nil => 1
  | .ptr d => uptoBulk d + 1
  | .slice elems spare => uptoBulkAll elems + uptoBulkAll spare + 1
  | .agg parts => uptoBulkAll parts + 1
  | .iface _ d => uptoBulk d + 1
  | .map entries => uptoBulkEntries entries + 1
  | .held _ => 1
def uptoBulkAll {H : Type} : List (DataW H) → Nat
  | [] => 0
  | d :: r => uptoBulk d + uptoBulkAll r
def uptoBulkEntries {H : Type} : List (Lit × DataW H) → Nat
  | [] => 0
  | x :: r => uptoBulkEntry x + uptoBulkEntries r
def uptoBulkEntry {H : Type} : Lit × DataW H → Nat
  | (.string bytes, d) => bytes.length + uptoBulk d + 1
  | (_, d) => uptoBulk d + 1
 end
def uptoSmall : (H : Type) → List (DataW H) → Bool := fun _ ds => decide (uptoBulkAll ds ≤ 1048576)
def OpenSpec.upto (s : _root_.Go.ChangeSpec) : _root_.Go.OpenSpec := { _root_.Go.OpenSpec.ofChange s with cond := some uptoSmall }

/-- 'laws.FnExactCllOk', WHERE WHAT IT READS IS OF BULK AT MOST 1048576: true; the input reads as it did. -/
def fnExactCllOkUptoRow : OpenClaim := { program := "yteepfcdjaakdfaa", sum := "42580a68ca30e70ad47e4b29e39274478c45ab9482c0f1b9a9f2836b25c9fd71", func := "loop.example/landmarch/laws.FnExactCllOk", spec := "fnExactCllOk", apart := false, narrowed := true }
def FnExactCllOkUptoSaid : Prop := fnExactCllOkUptoRow.holds Try.pinned (OpenSpec.upto fnExactCllOkSpec)

/-- 'laws.FnExactCllFresh', WHERE WHAT IT READS IS OF BULK AT MOST 1048576: true; the input reads as it did. -/
def fnExactCllFreshUptoRow : OpenClaim := { program := "yteepfcdjaakdfaa", sum := "42580a68ca30e70ad47e4b29e39274478c45ab9482c0f1b9a9f2836b25c9fd71", func := "loop.example/landmarch/laws.FnExactCllFresh", spec := "fnExactCllFresh", unfollowed := true, recurses := true, apart := false, narrowed := true }
def FnExactCllFreshUptoSaid : Prop := fnExactCllFreshUptoRow.holds Try.pinned (OpenSpec.upto fnExactCllFreshSpec)

/-- 'laws.FnExactCllCoins', WHERE WHAT IT READS IS OF BULK AT MOST 1048576: true; the input reads as it did. -/
def fnExactCllCoinsUptoRow : OpenClaim := { program := "yteepfcdjaakdfaa", sum := "42580a68ca30e70ad47e4b29e39274478c45ab9482c0f1b9a9f2836b25c9fd71", func := "loop.example/landmarch/laws.FnExactCllCoins", spec := "fnExactCllCoins", apart := false, narrowed := true }
def FnExactCllCoinsUptoSaid : Prop := fnExactCllCoinsUptoRow.holds Try.pinned (OpenSpec.upto fnExactCllCoinsSpec)

/-- 'laws.FnExactHldOk', WHERE WHAT IT READS IS OF BULK AT MOST 1048576: true; the input reads as it did. -/
def fnExactHldOkUptoRow : OpenClaim := { program := "yteepfcdjaakdfaa", sum := "42580a68ca30e70ad47e4b29e39274478c45ab9482c0f1b9a9f2836b25c9fd71", func := "loop.example/landmarch/laws.FnExactHldOk", spec := "fnExactHldOk", apart := false, narrowed := true }
def FnExactHldOkUptoSaid : Prop := fnExactHldOkUptoRow.holds Try.pinned (OpenSpec.upto fnExactHldOkSpec)

/-- 'laws.FnExactSrvNew', WHERE WHAT IT READS IS OF BULK AT MOST 1048576: true; the input reads as it did. -/
def fnExactSrvNewUptoRow : OpenClaim := { program := "yteepfcdjaakdfaa", sum := "42580a68ca30e70ad47e4b29e39274478c45ab9482c0f1b9a9f2836b25c9fd71", func := "loop.example/landmarch/laws.FnExactSrvNew", spec := "fnExactSrvNew", apart := false, narrowed := true }
def FnExactSrvNewUptoSaid : Prop := fnExactSrvNewUptoRow.holds Try.pinned (OpenSpec.upto fnExactSrvNewSpec)

/-- 'laws.FnExactSrvOk', WHERE WHAT IT READS IS OF BULK AT MOST 1048576: true; the input reads as it did. -/
def fnExactSrvOkUptoRow : OpenClaim := { program := "yteepfcdjaakdfaa", sum := "42580a68ca30e70ad47e4b29e39274478c45ab9482c0f1b9a9f2836b25c9fd71", func := "loop.example/landmarch/laws.FnExactSrvOk", spec := "fnExactSrvOk", apart := false, narrowed := true }
def FnExactSrvOkUptoSaid : Prop := fnExactSrvOkUptoRow.holds Try.pinned (OpenSpec.upto fnExactSrvOkSpec)

/-- 'laws.FnExactOneOk', WHERE WHAT IT READS IS OF BULK AT MOST 1048576: true; the input reads as it did. -/
def fnExactOneOkUptoRow : OpenClaim := { program := "yteepfcdjaakdfaa", sum := "42580a68ca30e70ad47e4b29e39274478c45ab9482c0f1b9a9f2836b25c9fd71", func := "loop.example/landmarch/laws.FnExactOneOk", spec := "fnExactOneOk", apart := false, narrowed := true }
def FnExactOneOkUptoSaid : Prop := fnExactOneOkUptoRow.holds Try.pinned (OpenSpec.upto fnExactOneOkSpec)

/-- 'laws.FnExactOneCoins', WHERE WHAT IT READS IS OF BULK AT MOST 1048576: true; the input reads as it did. -/
def fnExactOneCoinsUptoRow : OpenClaim := { program := "yteepfcdjaakdfaa", sum := "42580a68ca30e70ad47e4b29e39274478c45ab9482c0f1b9a9f2836b25c9fd71", func := "loop.example/landmarch/laws.FnExactOneCoins", spec := "fnExactOneCoins", apart := false, narrowed := true }
def FnExactOneCoinsUptoSaid : Prop := fnExactOneCoinsUptoRow.holds Try.pinned (OpenSpec.upto fnExactOneCoinsSpec)

/-- 'laws.FnExactCllNew', WHERE WHAT IT READS IS OF BULK AT MOST 1048576: true; the input reads as it did. -/
def fnExactCllNewUptoRow : OpenClaim := { program := "yteepfcdjaakdfaa", sum := "42580a68ca30e70ad47e4b29e39274478c45ab9482c0f1b9a9f2836b25c9fd71", func := "loop.example/landmarch/laws.FnExactCllNew", spec := "fnExactCllNew", apart := false, narrowed := true }
def FnExactCllNewUptoSaid : Prop := fnExactCllNewUptoRow.holds Try.pinned (OpenSpec.upto fnExactCllNewSpec)

/-- 'laws.FnExactStoNew', WHERE WHAT IT READS IS OF BULK AT MOST 1048576: true; the input reads as it did. -/
def fnExactStoNewUptoRow : OpenClaim := { program := "yteepfcdjaakdfaa", sum := "42580a68ca30e70ad47e4b29e39274478c45ab9482c0f1b9a9f2836b25c9fd71", func := "loop.example/landmarch/laws.FnExactStoNew", spec := "fnExactStoNew", apart := false, narrowed := true }
def FnExactStoNewUptoSaid : Prop := fnExactStoNewUptoRow.holds Try.pinned (OpenSpec.upto fnExactStoNewSpec)

/-- 'laws.FnExactSrvHold', WHERE WHAT IT READS IS OF BULK AT MOST 1048576: true; the input reads as it did. -/
def fnExactSrvHoldUptoRow : OpenClaim := { program := "yteepfcdjaakdfaa", sum := "42580a68ca30e70ad47e4b29e39274478c45ab9482c0f1b9a9f2836b25c9fd71", func := "loop.example/landmarch/laws.FnExactSrvHold", spec := "fnExactSrvHold", unfollowed := true, recurses := true, apart := false, narrowed := true }
def FnExactSrvHoldUptoSaid : Prop := fnExactSrvHoldUptoRow.holds Try.pinned (OpenSpec.upto fnExactSrvHoldSpec)

/-- 'laws.FnExactCllAck', WHERE WHAT IT READS IS OF BULK AT MOST 1048576: true; the input reads as it did. -/
def fnExactCllAckUptoRow : OpenClaim := { program := "yteepfcdjaakdfaa", sum := "42580a68ca30e70ad47e4b29e39274478c45ab9482c0f1b9a9f2836b25c9fd71", func := "loop.example/landmarch/laws.FnExactCllAck", spec := "fnExactCllAck", apart := false, narrowed := true }
def FnExactCllAckUptoSaid : Prop := fnExactCllAckUptoRow.holds Try.pinned (OpenSpec.upto fnExactCllAckSpec)

end Rows
end Go.Proofs.Yteepfcdjaakdfaa
