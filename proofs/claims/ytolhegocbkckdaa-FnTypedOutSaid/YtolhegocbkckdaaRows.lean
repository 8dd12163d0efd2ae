/-
  No cell of these rows narrows 'for every input' (looked for: loops, veiled, ifaces, maps, wideKeys, modest, calm, conditions, laid).
  DERIVED. THE GIVEN ROWS OF THIS SEAT. 5 by the template 'for every input the law returns true; each argument reads behind the call as it read before'; 0 by the template 'total and deterministic' (their statements: YtolhegocbkckdaaTotals.lean).
  GIVEN WITH THE SEED: the statements are not yours to turn. If you find one false, say at which input.
  Laid BY PROGRAM, IN A SANDBOX (cutbox-rows.mjs): the forced cells as the released guide's own fill.sh prints them over the translation 45de8b44cef019df… (all of the seat's roots in one cut). By AI agents, Wed Nov 11 2026. No macro, syntax, notation, axiom, sorry.
-/
import Derived.Test.YtolhegocbkckdaaChecked
import GoSem.Claim
import GoSem.ClaimJoined
import GoSem.ClaimMapViews
import Derived.JoinedTies
import Derived.KernelRfl
namespace Go.Proofs.Ytolhegocbkckdaa
/- THE CELL 'sum', in the pinned program and in every row, IS THE sha256 OF THE DUMP (.gsa) THAT YtolhegocbkckdaaProg.lean LOADS. Nothing in Lean hashes anything: it is a label: what it is worth is what the hold of that sum in a sandbox is worth. -/
noncomputable def Try.pinned : Pinned := { name := "ytolhegocbkckdaa", sum := "45de8b44cef019dfccb1c0aac4db4938d5df55acc8002b22d9b9eb69a2488547", checked := Try.checked }
namespace Rows
def none {H : Type} : Left H := { results := [], args := [] }

/-- 'laws.FnLift': WHATEVER THE INPUT: true; the input reads as it did. -/
def fnLiftSpec : ChangeSpec := { name := "fnLift", fn := fun _ => fun
  | [d] => { results := [.lit (.bool true)], args := [d] }
  | _ => none }
def fnLiftRow : OpenClaim := { program := "ytolhegocbkckdaa", sum := "45de8b44cef019dfccb1c0aac4db4938d5df55acc8002b22d9b9eb69a2488547", func := "loop.example/g00495/laws.FnLift", spec := "fnLift", unfollowed := true, recurses := true, apart := false }
def FnLiftSaid : Prop := fnLiftRow.holds Try.pinned (OpenSpec.ofChange fnLiftSpec)

/-- ITS FALSE NEIGHBOUR: 'it returns false'. Refute it at one input. -/
def fnLiftWrong : ChangeSpec := { name := "fnLift", fn := fun _ => fun
  | [d] => { results := [.lit (.bool false)], args := [d] }
  | _ => none }
def FnLiftWrongFalsely : Prop := fnLiftRow.holds Try.pinned (OpenSpec.ofChange fnLiftWrong)

/-- 'laws.FnFree': WHATEVER THE INPUT: true; the input reads as it did. -/
def fnFreeSpec : ChangeSpec := { name := "fnFree", fn := fun _ => fun
  | [d] => { results := [.lit (.bool true)], args := [d] }
  | _ => none }
def fnFreeRow : OpenClaim := { program := "ytolhegocbkckdaa", sum := "45de8b44cef019dfccb1c0aac4db4938d5df55acc8002b22d9b9eb69a2488547", func := "loop.example/g00495/laws.FnFree", spec := "fnFree", unfollowed := true, recurses := true, apart := false }
def FnFreeSaid : Prop := fnFreeRow.holds Try.pinned (OpenSpec.ofChange fnFreeSpec)

/-- ITS FALSE NEIGHBOUR: 'it returns false'. Refute it at one input. -/
def fnFreeWrong : ChangeSpec := { name := "fnFree", fn := fun _ => fun
  | [d] => { results := [.lit (.bool false)], args := [d] }
  | _ => none }
def FnFreeWrongFalsely : Prop := fnFreeRow.holds Try.pinned (OpenSpec.ofChange fnFreeWrong)

/-- 'laws.FnPlanParts': WHATEVER THE INPUT: true; the input reads as it did. -/
def fnPlanPartsSpec : ChangeSpec := { name := "fnPlanParts", fn := fun _ => fun
  | [d] => { results := [.lit (.bool true)], args := [d] }
  | _ => none }
def fnPlanPartsRow : OpenClaim := { program := "ytolhegocbkckdaa", sum := "45de8b44cef019dfccb1c0aac4db4938d5df55acc8002b22d9b9eb69a2488547", func := "loop.example/g00495/laws.FnPlanParts", spec := "fnPlanParts", unfollowed := true, recurses := true, apart := false }
def FnPlanPartsSaid : Prop := fnPlanPartsRow.holds Try.pinned (OpenSpec.ofChange fnPlanPartsSpec)

/-- ITS FALSE NEIGHBOUR: 'it returns false'. Refute it at one input. -/
def fnPlanPartsWrong : ChangeSpec := { name := "fnPlanParts", fn := fun _ => fun
  | [d] => { results := [.lit (.bool false)], args := [d] }
  | _ => none }
def FnPlanPartsWrongFalsely : Prop := fnPlanPartsRow.holds Try.pinned (OpenSpec.ofChange fnPlanPartsWrong)

/-- 'laws.FnTypedFree': WHATEVER THE INPUT: true; the input reads as it did. -/
def fnTypedFreeSpec : ChangeSpec := { name := "fnTypedFree", fn := fun _ => fun
  | [d] => { results := [.lit (.bool true)], args := [d] }
  | _ => none }
def fnTypedFreeRow : OpenClaim := { program := "ytolhegocbkckdaa", sum := "45de8b44cef019dfccb1c0aac4db4938d5df55acc8002b22d9b9eb69a2488547", func := "loop.example/g00495/laws.FnTypedFree", spec := "fnTypedFree", unfollowed := true, recurses := true, apart := false }
def FnTypedFreeSaid : Prop := fnTypedFreeRow.holds Try.pinned (OpenSpec.ofChange fnTypedFreeSpec)

/-- ITS FALSE NEIGHBOUR: 'it returns false'. Refute it at one input. -/
def fnTypedFreeWrong : ChangeSpec := { name := "fnTypedFree", fn := fun _ => fun
  | [d] => { results := [.lit (.bool false)], args := [d] }
  | _ => none }
def FnTypedFreeWrongFalsely : Prop := fnTypedFreeRow.holds Try.pinned (OpenSpec.ofChange fnTypedFreeWrong)

/-- 'laws.FnTypedOut': WHATEVER THE INPUT: true; the input reads as it did. -/
def fnTypedOutSpec : ChangeSpec := { name := "fnTypedOut", fn := fun _ => fun
  | [d] => { results := [.lit (.bool true)], args := [d] }
  | _ => none }
def fnTypedOutRow : OpenClaim := { program := "ytolhegocbkckdaa", sum := "45de8b44cef019dfccb1c0aac4db4938d5df55acc8002b22d9b9eb69a2488547", func := "loop.example/g00495/laws.FnTypedOut", spec := "fnTypedOut", unfollowed := true, recurses := true, apart := false }
def FnTypedOutSaid : Prop := fnTypedOutRow.holds Try.pinned (OpenSpec.ofChange fnTypedOutSpec)

/-- ITS FALSE NEIGHBOUR: 'it returns false'. Refute it at one input. -/
def fnTypedOutWrong : ChangeSpec := { name := "fnTypedOut", fn := fun _ => fun
  | [d] => { results := [.lit (.bool false)], args := [d] }
  | _ => none }
def FnTypedOutWrongFalsely : Prop := fnTypedOutRow.holds Try.pinned (OpenSpec.ofChange fnTypedOutWrong)

/- THE SECOND FORM. 'bulk': how many values and letters a reading holds, each counted each time it is reached (what is shared counts as often as it is met; a slice's spare places count too). A statement '..UptoSaid' is the law's where the arguments, and the package variables that the reading takes, are together of bulk at most 1048576: NARROWER than '..Said'. Prove '..Said' where nothing that the law and all that it calls make is longer than what came in: it says more and counts as full. Else prove '..UptoSaid'. A law counts once. -/
mutual
def uptoBulk {H : Type} : DataW H → Nat
  | .lit (.string bytes) => bytes.length + 1
  | .lit _ => 1
  | .nil => 1
  | .ptr d => uptoBulk d + 1
  | .slice elems spare => uptoBulkAll elems + uptoBulkAll spare + 1
  | .agg parts => uptoBulkAll parts + 1
  | .iface _ d => uptoBulk d + 1
  | .map entries => uptoBulkEntries entries + 1
  | .held _ => 1
def uptoBulkAll {H : Type} : List (DataW H) → Nat
  | [] => 0
  | d :: r => uptoBulk d + uptoBulkAll r
def uptoBulkEntries {H : Type} : List (Lit × DataW H) → Nat
  | [] => 0
  | x :: r => uptoBulkEntry x + uptoBulkEntries r
def uptoBulkEntry {H : Type} : Lit × DataW H → Nat
  | (.string bytes, d) => bytes.length + uptoBulk d + 1
  | (_, d) => uptoBulk d + 1
 end
def uptoSmall : (H : Type) → List (DataW H) → Bool := fun _ ds => decide (uptoBulkAll ds ≤ 1048576)
def OpenSpec.upto (s : _root_.Go.ChangeSpec) : _root_.Go.OpenSpec := { _root_.Go.OpenSpec.ofChange s with cond := some uptoSmall }

/-- 'laws.FnLift', WHERE WHAT IT READS IS OF BULK AT MOST 1048576: true; the input reads as it did. -/
def fnLiftUptoRow : OpenClaim := { program := "ytolhegocbkckdaa", sum := "45de8b44cef019dfccb1c0aac4db4938d5df55acc8002b22d9b9eb69a2488547", func := "loop.example/g00495/laws.FnLift", spec := "fnLift", unfollowed := true, recurses := true, apart := false, narrowed := true }
def FnLiftUptoSaid : Prop := fnLiftUptoRow.holds Try.pinned (OpenSpec.upto fnLiftSpec)

/-- 'laws.FnFree', WHERE WHAT IT READS IS OF BULK AT MOST 1048576: true; the input reads as it did. -/
def fnFreeUptoRow : OpenClaim := { program := "ytolhegocbkckdaa", sum := "45de8b44cef019dfccb1c0aac4db4938d5df55acc8002b22d9b9eb69a2488547", func := "loop.example/g00495/laws.FnFree", spec := "fnFree", unfollowed := true, recurses := true, apart := false, narrowed := true }
def FnFreeUptoSaid : Prop := fnFreeUptoRow.holds Try.pinned (OpenSpec.upto fnFreeSpec)

/-- 'laws.FnPlanParts', WHERE WHAT IT READS IS OF BULK AT MOST 1048576: true; the input reads as it did. -/
def fnPlanPartsUptoRow : OpenClaim := { program := "ytolhegocbkckdaa", sum := "45de8b44cef019dfccb1c0aac4db4938d5df55acc8002b22d9b9eb69a2488547", func := "loop.example/g00495/laws.FnPlanParts", spec := "fnPlanParts", unfollowed := true, recurses := true, apart := false, narrowed := true }
def FnPlanPartsUptoSaid : Prop := fnPlanPartsUptoRow.holds Try.pinned (OpenSpec.upto fnPlanPartsSpec)

/-- 'laws.FnTypedFree', WHERE WHAT IT READS IS OF BULK AT MOST 1048576: true; the input reads as it did. -/
def fnTypedFreeUptoRow : OpenClaim := { program := "ytolhegocbkckdaa", sum := "45de8b44cef019dfccb1c0aac4db4938d5df55acc8002b22d9b9eb69a2488547", func := "loop.example/g00495/laws.FnTypedFree", spec := "fnTypedFree", unfollowed := true, recurses := true, apart := false, narrowed := true }
def FnTypedFreeUptoSaid : Prop := fnTypedFreeUptoRow.holds Try.pinned (OpenSpec.upto fnTypedFreeSpec)

/-- 'laws.FnTypedOut', WHERE WHAT IT READS IS OF BULK AT MOST 1048576: true; the input reads as it did. -/
def fnTypedOutUptoRow : OpenClaim := { program := "ytolhegocbkckdaa", sum := "45de8b44cef019dfccb1c0aac4db4938d5df55acc8002b22d9b9eb69a2488547", func := "loop.example/g00495/laws.FnTypedOut", spec := "fnTypedOut", unfollowed := true, recurses := true, apart := false, narrowed := true }
def FnTypedOutUptoSaid : Prop := fnTypedOutUptoRow.holds Try.pinned (OpenSpec.upto fnTypedOutSpec)

end Rows
end Go.Proofs.Ytolhegocbkckdaa
