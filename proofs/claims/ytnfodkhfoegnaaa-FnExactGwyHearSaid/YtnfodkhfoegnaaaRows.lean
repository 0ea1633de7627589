/-
  No cell of these rows narrows 'for every input' (looked for: loops, veiled, ifaces, maps, wideKeys, modest, calm, conditions, laid).
  DERIVED. THE GIVEN ROWS OF THIS SEAT. 4 by the template 'for every input the law returns true; each argument reads behind the call as it read before'; 0 by the template 'total and deterministic' (their statements: YtnfodkhfoegnaaaTotals.lean).
  GIVEN WITH THE SEED: the statements are not yours to turn. If you find one false, say at which input.
  Laid BY PROGRAM, IN A SANDBOX (cutbox-rows.mjs): the forced cells as the released guide's own fill.sh prints them over the translation 54fc821a78075b50… (all of the seat's roots in one cut). By AI agents, Wed Nov 11 2026. No macro, syntax, notation, axiom, sorry.
-/
import Derived.Test.YtnfodkhfoegnaaaChecked
import GoSem.Claim
import GoSem.ClaimJoined
import GoSem.ClaimMapViews
import Derived.JoinedTies
import Derived.KernelRfl
namespace Go.Proofs.Ytnfodkhfoegnaaa
/- THE CELL 'sum', in the pinned program and in every row, IS THE sha256 OF THE DUMP (.gsa) THAT YtnfodkhfoegnaaaProg.lean LOADS. Nothing in Lean hashes anything: it is a label: what it is worth is what the hold of that sum in a sandbox is worth. -/
noncomputable def Try.pinned : Pinned := { name := "ytnfodkhfoegnaaa", sum := "54fc821a78075b5058488874513e36fb019ba7dabc13c12c789e9e8d9cc798d0", checked := Try.checked }
namespace Rows
def none {H : Type} : Left H := { results := [], args := [] }

/-- 'laws.FnExactMsgOk': WHATEVER THE INPUT: true; the input reads as it did. -/
def fnExactMsgOkSpec : ChangeSpec := { name := "fnExactMsgOk", fn := fun _ => fun
  | [d1, d2, d3] => { results := [.lit (.bool true)], args := [d1, d2, d3] }
  | _ => none }
def fnExactMsgOkRow : OpenClaim := { program := "ytnfodkhfoegnaaa", sum := "54fc821a78075b5058488874513e36fb019ba7dabc13c12c789e9e8d9cc798d0", func := "loop.example/landmarch/laws.FnExactMsgOk", spec := "fnExactMsgOk", apart := false }
def FnExactMsgOkSaid : Prop := fnExactMsgOkRow.holds Try.pinned (OpenSpec.ofChange fnExactMsgOkSpec)

/-- ITS FALSE NEIGHBOUR: 'it returns false'. Refute it at one input. -/
def fnExactMsgOkWrong : ChangeSpec := { name := "fnExactMsgOk", fn := fun _ => fun
  | [d1, d2, d3] => { results := [.lit (.bool false)], args := [d1, d2, d3] }
  | _ => none }
def FnExactMsgOkWrongFalsely : Prop := fnExactMsgOkRow.holds Try.pinned (OpenSpec.ofChange fnExactMsgOkWrong)

/-- 'laws.FnExactGwySay': WHATEVER THE INPUT: true; the input reads as it did. -/
def fnExactGwySaySpec : ChangeSpec := { name := "fnExactGwySay", fn := fun _ => fun
  | [d1, d2, d3, d4, d5] => { results := [.lit (.bool true)], args := [d1, d2, d3, d4, d5] }
  | _ => none }
def fnExactGwySayRow : OpenClaim := { program := "ytnfodkhfoegnaaa", sum := "54fc821a78075b5058488874513e36fb019ba7dabc13c12c789e9e8d9cc798d0", func := "loop.example/landmarch/laws.FnExactGwySay", spec := "fnExactGwySay", unfollowed := true, recurses := true, apart := false }
def FnExactGwySaySaid : Prop := fnExactGwySayRow.holds Try.pinned (OpenSpec.ofChange fnExactGwySaySpec)

/-- ITS FALSE NEIGHBOUR: 'it returns false'. Refute it at one input. -/
def fnExactGwySayWrong : ChangeSpec := { name := "fnExactGwySay", fn := fun _ => fun
  | [d1, d2, d3, d4, d5] => { results := [.lit (.bool false)], args := [d1, d2, d3, d4, d5] }
  | _ => none }
def FnExactGwySayWrongFalsely : Prop := fnExactGwySayRow.holds Try.pinned (OpenSpec.ofChange fnExactGwySayWrong)

/-- 'laws.FnExactGwyHear': WHATEVER THE INPUT: true; the input reads as it did. -/
def fnExactGwyHearSpec : ChangeSpec := { name := "fnExactGwyHear", fn := fun _ => fun
  | [d1, d2, d3, d4] => { results := [.lit (.bool true)], args := [d1, d2, d3, d4] }
  | _ => none }
def fnExactGwyHearRow : OpenClaim := { program := "ytnfodkhfoegnaaa", sum := "54fc821a78075b5058488874513e36fb019ba7dabc13c12c789e9e8d9cc798d0", func := "loop.example/landmarch/laws.FnExactGwyHear", spec := "fnExactGwyHear", unfollowed := true, recurses := true, apart := false }
def FnExactGwyHearSaid : Prop := fnExactGwyHearRow.holds Try.pinned (OpenSpec.ofChange fnExactGwyHearSpec)

/-- ITS FALSE NEIGHBOUR: 'it returns false'. Refute it at one input. -/
def fnExactGwyHearWrong : ChangeSpec := { name := "fnExactGwyHear", fn := fun _ => fun
  | [d1, d2, d3, d4] => { results := [.lit (.bool false)], args := [d1, d2, d3, d4] }
  | _ => none }
def FnExactGwyHearWrongFalsely : Prop := fnExactGwyHearRow.holds Try.pinned (OpenSpec.ofChange fnExactGwyHearWrong)

/-- 'laws.FnExactGstPut': WHATEVER THE INPUT: true; the input reads as it did. -/
def fnExactGstPutSpec : ChangeSpec := { name := "fnExactGstPut", fn := fun _ => fun
  | [d1, d2, d3] => { results := [.lit (.bool true)], args := [d1, d2, d3] }
  | _ => none }
def fnExactGstPutRow : OpenClaim := { program := "ytnfodkhfoegnaaa", sum := "54fc821a78075b5058488874513e36fb019ba7dabc13c12c789e9e8d9cc798d0", func := "loop.example/landmarch/laws.FnExactGstPut", spec := "fnExactGstPut", inPlace := ["slices.overlaps[loop.example/landmarch/impl.GstGhost]"], apart := false }
def FnExactGstPutSaid : Prop := fnExactGstPutRow.holds Try.pinned (OpenSpec.ofChange fnExactGstPutSpec)

/-- ITS FALSE NEIGHBOUR: 'it returns false'. Refute it at one input. -/
def fnExactGstPutWrong : ChangeSpec := { name := "fnExactGstPut", fn := fun _ => fun
  | [d1, d2, d3] => { results := [.lit (.bool false)], args := [d1, d2, d3] }
  | _ => none }
def FnExactGstPutWrongFalsely : Prop := fnExactGstPutRow.holds Try.pinned (OpenSpec.ofChange fnExactGstPutWrong)

/- THE SECOND FORM. 'bulk': how many values and letters a reading holds, each counted each time it is reached (what is shared counts as often as it is met; a slice's spare places count too). A statement '..UptoSaid' is the law's where the arguments, and the package variables that the reading takes, are together of bulk at most 1048576: NARROWER than '..Said'. Prove '..Said' where nothing that the law and all that it calls make is longer than what came in: it says more and counts as full. Else prove '..UptoSaid'. A law counts once. -/
mutual
def uptoBulk {H : Type} : DataW H → Nat
  | .lit (.string bytes) => bytes.length + 1
  | .lit _ => 1
  | .nil => 1
  | .ptr d => uptoBulk d + 1
  | .slice elems spare => uptoBulkAll elems + uptoBulkAll spare + 1
  | .agg parts => uptoBulkAll parts + 1
  | .iface _ d => uptoBulk d + 1
  | .map entries => uptoBulkEntries entries + 1
  | .held _ => 1
def uptoBulkAll {H : Type} : List (DataW H) → Nat
  | [] => 0
  | d :: r => uptoBulk d + uptoBulkAll r
def uptoBulkEntries {H : Type} : List (Lit × DataW H) → Nat
  | [] => 0
  | x :: r => uptoBulkEntry x + uptoBulkEntries r
def uptoBulkEntry {H : Type} : Lit × DataW H → Nat
  | (.string bytes, d) => bytes.length + uptoBulk d + 1
  | (_, d) => uptoBulk d + 1
 end
def uptoSmall : (H : Type) → List (DataW H) → Bool := fun _ ds => decide (uptoBulkAll ds ≤ 1048576)
def OpenSpec.upto (s : _root_.Go.ChangeSpec) : _root_.Go.OpenSpec := { _root_.Go.OpenSpec.ofChange s with cond := some uptoSmall }

/-- 'laws.FnExactMsgOk', WHERE WHAT IT READS IS OF BULK AT MOST 1048576: true; the input reads as it did. -/
def fnExactMsgOkUptoRow : OpenClaim := { program := "ytnfodkhfoegnaaa", sum := "54fc821a78075b5058488874513e36fb019ba7dabc13c12c789e9e8d9cc798d0", func := "loop.example/landmarch/laws.FnExactMsgOk", spec := "fnExactMsgOk", apart := false, narrowed := true }
def FnExactMsgOkUptoSaid : Prop := fnExactMsgOkUptoRow.holds Try.pinned (OpenSpec.upto fnExactMsgOkSpec)

/-- 'laws.FnExactGwySay', WHERE WHAT IT READS IS OF BULK AT MOST 1048576: true; the input reads as it did. -/
def fnExactGwySayUptoRow : OpenClaim := { program := "ytnfodkhfoegnaaa", sum := "54fc821a78075b5058488874513e36fb019ba7dabc13c12c789e9e8d9cc798d0", func := "loop.example/landmarch/laws.FnExactGwySay", spec := "fnExactGwySay", unfollowed := true, recurses := true, apart := false, narrowed := true }
def FnExactGwySayUptoSaid : Prop := fnExactGwySayUptoRow.holds Try.pinned (OpenSpec.upto fnExactGwySaySpec)

/-- 'laws.FnExactGwyHear', WHERE WHAT IT READS IS OF BULK AT MOST 1048576: true; the input reads as it did. -/
def fnExactGwyHearUptoRow : OpenClaim := { program := "ytnfodkhfoegnaaa", sum := "54fc821a78075b5058488874513e36fb019ba7dabc13c12c789e9e8d9cc798d0", func := "loop.example/landmarch/laws.FnExactGwyHear", spec := "fnExactGwyHear", unfollowed := true, recurses := true, apart := false, narrowed := true }
def FnExactGwyHearUptoSaid : Prop := fnExactGwyHearUptoRow.holds Try.pinned (OpenSpec.upto fnExactGwyHearSpec)

/-- 'laws.FnExactGstPut', WHERE WHAT IT READS IS OF BULK AT MOST 1048576: true; the input reads as it did. -/
def fnExactGstPutUptoRow : OpenClaim := { program := "ytnfodkhfoegnaaa", sum := "54fc821a78075b5058488874513e36fb019ba7dabc13c12c789e9e8d9cc798d0", func := "loop.example/landmarch/laws.FnExactGstPut", spec := "fnExactGstPut", inPlace := ["slices.overlaps[loop.example/landmarch/impl.GstGhost]"], apart := false, narrowed := true }
def FnExactGstPutUptoSaid : Prop := fnExactGstPutUptoRow.holds Try.pinned (OpenSpec.upto fnExactGstPutSpec)

end Rows
end Go.Proofs.Ytnfodkhfoegnaaa
