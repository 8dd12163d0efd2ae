/-
  NARROWER THAN 'FOR EVERY INPUT', by the rows' own cells (each row's printed sentence says how): FnExactAliasOf: loops · FnExactPlanSize: loops · FnExactPlanDepth: loops · FnExactSamePExpr: loops · FnExactSamePlan: loops · FnExactSameSPlan: loops.
  DERIVED. THE GIVEN ROWS OF THIS SEAT. 10 by the template 'for every input the law returns true; each argument reads behind the call as it read before'; 0 by the template 'total and deterministic' (their statements: YtejdgmdebfkkeaaTotals.lean).
  GIVEN WITH THE SEED: the statements are not yours to turn. If you find one false, say at which input.
  Laid BY PROGRAM, IN A SANDBOX (cutbox-rows.mjs): the forced cells as the released guide's own fill.sh prints them over the translation 4acf0dce84047a24… (all of the seat's roots in one cut). By AI agents, Wed Nov 11 2026. No macro, syntax, notation, axiom, sorry.
-/
import Derived.Test.YtejdgmdebfkkeaaChecked
import GoSem.Claim
import GoSem.ClaimJoined
import GoSem.ClaimMapViews
import Derived.JoinedTies
import Derived.KernelRfl
namespace Go.Proofs.Ytejdgmdebfkkeaa
/- THE CELL 'sum', in the pinned program and in every row, IS THE sha256 OF THE DUMP (.gsa) THAT YtejdgmdebfkkeaaProg.lean LOADS. Nothing in Lean hashes anything: it is a label: what it is worth is what the hold of that sum in a sandbox is worth. -/
noncomputable def Try.pinned : Pinned := { name := "ytejdgmdebfkkeaa", sum := "4acf0dce84047a2473d4a4b0a93278d0624c3f5e586ab0b31c59666dddf61203", checked := Try.checked }
namespace Rows
def none {H : Type} : Left H := { results := [], args := [] }

/-- 'laws.FnFree': WHATEVER THE INPUT: true; the input reads as it did. -/
def fnFreeSpec : ChangeSpec := { name := "fnFree", fn := fun _ => fun
  | [d] => { results := [.lit (.bool true)], args := [d] }
  | _ => none }
def fnFreeRow : OpenClaim := { program := "ytejdgmdebfkkeaa", sum := "4acf0dce84047a2473d4a4b0a93278d0624c3f5e586ab0b31c59666dddf61203", func := "loop.example/g00495/laws.FnFree", spec := "fnFree", unfollowed := true, recurses := true, apart := false }
def FnFreeSaid : Prop := fnFreeRow.holds Try.pinned (OpenSpec.ofChange fnFreeSpec)

/-- ITS FALSE NEIGHBOUR: 'it returns false'. Refute it at one input. -/
def fnFreeWrong : ChangeSpec := { name := "fnFree", fn := fun _ => fun
  | [d] => { results := [.lit (.bool false)], args := [d] }
  | _ => none }
def FnFreeWrongFalsely : Prop := fnFreeRow.holds Try.pinned (OpenSpec.ofChange fnFreeWrong)

/-- 'laws.FnTypesHold': WHATEVER THE INPUT: true; the input reads as it did. -/
def fnTypesHoldSpec : ChangeSpec := { name := "fnTypesHold", fn := fun _ => fun
  | [d] => { results := [.lit (.bool true)], args := [d] }
  | _ => none }
def fnTypesHoldRow : OpenClaim := { program := "ytejdgmdebfkkeaa", sum := "4acf0dce84047a2473d4a4b0a93278d0624c3f5e586ab0b31c59666dddf61203", func := "loop.example/g00495/laws.FnTypesHold", spec := "fnTypesHold", apart := false }
def FnTypesHoldSaid : Prop := fnTypesHoldRow.holds Try.pinned (OpenSpec.ofChange fnTypesHoldSpec)

/-- ITS FALSE NEIGHBOUR: 'it returns false'. Refute it at one input. -/
def fnTypesHoldWrong : ChangeSpec := { name := "fnTypesHold", fn := fun _ => fun
  | [d] => { results := [.lit (.bool false)], args := [d] }
  | _ => none }
def FnTypesHoldWrongFalsely : Prop := fnTypesHoldRow.holds Try.pinned (OpenSpec.ofChange fnTypesHoldWrong)

/-- 'laws.FnPlanParts': WHATEVER THE INPUT: true; the input reads as it did. -/
def fnPlanPartsSpec : ChangeSpec := { name := "fnPlanParts", fn := fun _ => fun
  | [d] => { results := [.lit (.bool true)], args := [d] }
  | _ => none }
def fnPlanPartsRow : OpenClaim := { program := "ytejdgmdebfkkeaa", sum := "4acf0dce84047a2473d4a4b0a93278d0624c3f5e586ab0b31c59666dddf61203", func := "loop.example/g00495/laws.FnPlanParts", spec := "fnPlanParts", unfollowed := true, recurses := true, apart := false }
def FnPlanPartsSaid : Prop := fnPlanPartsRow.holds Try.pinned (OpenSpec.ofChange fnPlanPartsSpec)

/-- ITS FALSE NEIGHBOUR: 'it returns false'. Refute it at one input. -/
def fnPlanPartsWrong : ChangeSpec := { name := "fnPlanParts", fn := fun _ => fun
  | [d] => { results := [.lit (.bool false)], args := [d] }
  | _ => none }
def FnPlanPartsWrongFalsely : Prop := fnPlanPartsRow.holds Try.pinned (OpenSpec.ofChange fnPlanPartsWrong)

/-- 'laws.FnExactSameBag': WHATEVER THE INPUT: true; the input reads as it did. -/
def fnExactSameBagSpec : ChangeSpec := { name := "fnExactSameBag", fn := fun _ => fun
  | [d1, d2] => { results := [.lit (.bool true)], args := [d1, d2] }
  | _ => none }
def fnExactSameBagRow : OpenClaim := { program := "ytejdgmdebfkkeaa", sum := "4acf0dce84047a2473d4a4b0a93278d0624c3f5e586ab0b31c59666dddf61203", func := "loop.example/g00495/laws.FnExactSameBag", spec := "fnExactSameBag", unfollowed := true, recurses := true, apart := false }
def FnExactSameBagSaid : Prop := fnExactSameBagRow.holds Try.pinned (OpenSpec.ofChange fnExactSameBagSpec)

/-- ITS FALSE NEIGHBOUR: 'it returns false'. Refute it at one input. -/
def fnExactSameBagWrong : ChangeSpec := { name := "fnExactSameBag", fn := fun _ => fun
  | [d1, d2] => { results := [.lit (.bool false)], args := [d1, d2] }
  | _ => none }
def FnExactSameBagWrongFalsely : Prop := fnExactSameBagRow.holds Try.pinned (OpenSpec.ofChange fnExactSameBagWrong)

/-- 'laws.FnExactAliasOf': WHATEVER THE INPUT: true; the input reads as it did. -/
def fnExactAliasOfSpec : ChangeSpec := { name := "fnExactAliasOf", fn := fun _ => fun
  | [d] => { results := [.lit (.bool true)], args := [d] }
  | _ => none }
def fnExactAliasOfRow : OpenClaim := { program := "ytejdgmdebfkkeaa", sum := "4acf0dce84047a2473d4a4b0a93278d0624c3f5e586ab0b31c59666dddf61203", func := "loop.example/g00495/laws.FnExactAliasOf", spec := "fnExactAliasOf", recurses := true, loops := true, apart := false }
def FnExactAliasOfSaid : Prop := fnExactAliasOfRow.holds Try.pinned (OpenSpec.ofChange fnExactAliasOfSpec)

/-- ITS FALSE NEIGHBOUR: 'it returns false'. Refute it at one input. -/
def fnExactAliasOfWrong : ChangeSpec := { name := "fnExactAliasOf", fn := fun _ => fun
  | [d] => { results := [.lit (.bool false)], args := [d] }
  | _ => none }
def FnExactAliasOfWrongFalsely : Prop := fnExactAliasOfRow.holds Try.pinned (OpenSpec.ofChange fnExactAliasOfWrong)

/-- 'laws.FnExactPlanSize': WHATEVER THE INPUT: true; the input reads as it did. -/
def fnExactPlanSizeSpec : ChangeSpec := { name := "fnExactPlanSize", fn := fun _ => fun
  | [d] => { results := [.lit (.bool true)], args := [d] }
  | _ => none }
def fnExactPlanSizeRow : OpenClaim := { program := "ytejdgmdebfkkeaa", sum := "4acf0dce84047a2473d4a4b0a93278d0624c3f5e586ab0b31c59666dddf61203", func := "loop.example/g00495/laws.FnExactPlanSize", spec := "fnExactPlanSize", recurses := true, loops := true, apart := false }
def FnExactPlanSizeSaid : Prop := fnExactPlanSizeRow.holds Try.pinned (OpenSpec.ofChange fnExactPlanSizeSpec)

/-- ITS FALSE NEIGHBOUR: 'it returns false'. Refute it at one input. -/
def fnExactPlanSizeWrong : ChangeSpec := { name := "fnExactPlanSize", fn := fun _ => fun
  | [d] => { results := [.lit (.bool false)], args := [d] }
  | _ => none }
def FnExactPlanSizeWrongFalsely : Prop := fnExactPlanSizeRow.holds Try.pinned (OpenSpec.ofChange fnExactPlanSizeWrong)

/-- 'laws.FnExactPlanDepth': WHATEVER THE INPUT: true; the input reads as it did. -/
def fnExactPlanDepthSpec : ChangeSpec := { name := "fnExactPlanDepth", fn := fun _ => fun
  | [d] => { results := [.lit (.bool true)], args := [d] }
  | _ => none }
def fnExactPlanDepthRow : OpenClaim := { program := "ytejdgmdebfkkeaa", sum := "4acf0dce84047a2473d4a4b0a93278d0624c3f5e586ab0b31c59666dddf61203", func := "loop.example/g00495/laws.FnExactPlanDepth", spec := "fnExactPlanDepth", recurses := true, loops := true, apart := false }
def FnExactPlanDepthSaid : Prop := fnExactPlanDepthRow.holds Try.pinned (OpenSpec.ofChange fnExactPlanDepthSpec)

/-- ITS FALSE NEIGHBOUR: 'it returns false'. Refute it at one input. -/
def fnExactPlanDepthWrong : ChangeSpec := { name := "fnExactPlanDepth", fn := fun _ => fun
  | [d] => { results := [.lit (.bool false)], args := [d] }
  | _ => none }
def FnExactPlanDepthWrongFalsely : Prop := fnExactPlanDepthRow.holds Try.pinned (OpenSpec.ofChange fnExactPlanDepthWrong)

/-- 'laws.FnExactSamePExpr': WHATEVER THE INPUT: true; the input reads as it did. -/
def fnExactSamePExprSpec : ChangeSpec := { name := "fnExactSamePExpr", fn := fun _ => fun
  | [d1, d2] => { results := [.lit (.bool true)], args := [d1, d2] }
  | _ => none }
def fnExactSamePExprRow : OpenClaim := { program := "ytejdgmdebfkkeaa", sum := "4acf0dce84047a2473d4a4b0a93278d0624c3f5e586ab0b31c59666dddf61203", func := "loop.example/g00495/laws.FnExactSamePExpr", spec := "fnExactSamePExpr", unfollowed := true, recurses := true, loops := true, apart := false }
def FnExactSamePExprSaid : Prop := fnExactSamePExprRow.holds Try.pinned (OpenSpec.ofChange fnExactSamePExprSpec)

/-- ITS FALSE NEIGHBOUR: 'it returns false'. Refute it at one input. -/
def fnExactSamePExprWrong : ChangeSpec := { name := "fnExactSamePExpr", fn := fun _ => fun
  | [d1, d2] => { results := [.lit (.bool false)], args := [d1, d2] }
  | _ => none }
def FnExactSamePExprWrongFalsely : Prop := fnExactSamePExprRow.holds Try.pinned (OpenSpec.ofChange fnExactSamePExprWrong)

/-- 'laws.FnExactSamePlan': WHATEVER THE INPUT: true; the input reads as it did. -/
def fnExactSamePlanSpec : ChangeSpec := { name := "fnExactSamePlan", fn := fun _ => fun
  | [d1, d2] => { results := [.lit (.bool true)], args := [d1, d2] }
  | _ => none }
def fnExactSamePlanRow : OpenClaim := { program := "ytejdgmdebfkkeaa", sum := "4acf0dce84047a2473d4a4b0a93278d0624c3f5e586ab0b31c59666dddf61203", func := "loop.example/g00495/laws.FnExactSamePlan", spec := "fnExactSamePlan", unfollowed := true, recurses := true, loops := true, apart := false }
def FnExactSamePlanSaid : Prop := fnExactSamePlanRow.holds Try.pinned (OpenSpec.ofChange fnExactSamePlanSpec)

/-- ITS FALSE NEIGHBOUR: 'it returns false'. Refute it at one input. -/
def fnExactSamePlanWrong : ChangeSpec := { name := "fnExactSamePlan", fn := fun _ => fun
  | [d1, d2] => { results := [.lit (.bool false)], args := [d1, d2] }
  | _ => none }
def FnExactSamePlanWrongFalsely : Prop := fnExactSamePlanRow.holds Try.pinned (OpenSpec.ofChange fnExactSamePlanWrong)

/-- 'laws.FnExactSameSPlan': WHATEVER THE INPUT: true; the input reads as it did. -/
def fnExactSameSPlanSpec : ChangeSpec := { name := "fnExactSameSPlan", fn := fun _ => fun
  | [d1, d2] => { results := [.lit (.bool true)], args := [d1, d2] }
  | _ => none }
def fnExactSameSPlanRow : OpenClaim := { program := "ytejdgmdebfkkeaa", sum := "4acf0dce84047a2473d4a4b0a93278d0624c3f5e586ab0b31c59666dddf61203", func := "loop.example/g00495/laws.FnExactSameSPlan", spec := "fnExactSameSPlan", unfollowed := true, recurses := true, loops := true, apart := false }
def FnExactSameSPlanSaid : Prop := fnExactSameSPlanRow.holds Try.pinned (OpenSpec.ofChange fnExactSameSPlanSpec)

/-- ITS FALSE NEIGHBOUR: 'it returns false'. Refute it at one input. -/
def fnExactSameSPlanWrong : ChangeSpec := { name := "fnExactSameSPlan", fn := fun _ => fun
  | [d1, d2] => { results := [.lit (.bool false)], args := [d1, d2] }
  | _ => none }
def FnExactSameSPlanWrongFalsely : Prop := fnExactSameSPlanRow.holds Try.pinned (OpenSpec.ofChange fnExactSameSPlanWrong)

/- THE SECOND FORM. 'bulk': how many values and letters a reading holds, each counted each time it is reached (what is shared counts as often as it is met; a slice's spare places count too). A statement '..UptoSaid' is the law's where the arguments, and the package variables that the reading takes, are together of bulk at most 1048576: NARROWER than '..Said'. Prove '..Said' where nothing that the law and all that it calls make is longer than what came in: it says more and counts as full. Else prove '..UptoSaid'. A law counts once. -/
mutual
def uptoBulk {H : Type} : DataW H → Nat
  | .lit (.string bytes) => bytes.length + 1
  | .lit _ => 1
  | .nil => 1
  | .ptr d => uptoBulk d + 1
  | .slice elems spare => uptoBulkAll elems + uptoBulkAll spare + 1
  | .agg parts => uptoBulkAll parts + 1
  | .iface _ d => uptoBulk d + 1
  | .map entries => uptoBulkEntries entries + 1
  | .held _ => 1
def uptoBulkAll {H : Type} : List (DataW H) → Nat
  | [] => 0
  | d :: r => uptoBulk d + uptoBulkAll r
def uptoBulkEntries {H : Type} : List (Lit × DataW H) → Nat
  | [] => 0
  | x :: r => uptoBulkEntry x + uptoBulkEntries r
def uptoBulkEntry {H : Type} : Lit × DataW H → Nat
  | (.string bytes, d) => bytes.length + uptoBulk d + 1
  | (_, d) => uptoBulk d + 1
 end
def uptoSmall : (H : Type) → List (DataW H) → Bool := fun _ ds => decide (uptoBulkAll ds ≤ 1048576)
def OpenSpec.upto (s : _root_.Go.ChangeSpec) : _root_.Go.OpenSpec := { _root_.Go.OpenSpec.ofChange s with cond := some uptoSmall }

/-- 'laws.FnFree', WHERE WHAT IT READS IS OF BULK AT MOST 1048576: true; the input reads as it did. -/
def fnFreeUptoRow : OpenClaim := { program := "ytejdgmdebfkkeaa", sum := "4acf0dce84047a2473d4a4b0a93278d0624c3f5e586ab0b31c59666dddf61203", func := "loop.example/g00495/laws.FnFree", spec := "fnFree", unfollowed := true, recurses := true, apart := false, narrowed := true }
def FnFreeUptoSaid : Prop := fnFreeUptoRow.holds Try.pinned (OpenSpec.upto fnFreeSpec)

/-- 'laws.FnTypesHold', WHERE WHAT IT READS IS OF BULK AT MOST 1048576: true; the input reads as it did. -/
def fnTypesHoldUptoRow : OpenClaim := { program := "ytejdgmdebfkkeaa", sum := "4acf0dce84047a2473d4a4b0a93278d0624c3f5e586ab0b31c59666dddf61203", func := "loop.example/g00495/laws.FnTypesHold", spec := "fnTypesHold", apart := false, narrowed := true }
def FnTypesHoldUptoSaid : Prop := fnTypesHoldUptoRow.holds Try.pinned (OpenSpec.upto fnTypesHoldSpec)

/-- 'laws.FnPlanParts', WHERE WHAT IT READS IS OF BULK AT MOST 1048576: true; the input reads as it did. -/
def fnPlanPartsUptoRow : OpenClaim := { program := "ytejdgmdebfkkeaa", sum := "4acf0dce84047a2473d4a4b0a93278d0624c3f5e586ab0b31c59666dddf61203", func := "loop.example/g00495/laws.FnPlanParts", spec := "fnPlanParts", unfollowed := true, recurses := true, apart := false, narrowed := true }
def FnPlanPartsUptoSaid : Prop := fnPlanPartsUptoRow.holds Try.pinned (OpenSpec.upto fnPlanPartsSpec)

/-- 'laws.FnExactSameBag', WHERE WHAT IT READS IS OF BULK AT MOST 1048576: true; the input reads as it did. -/
def fnExactSameBagUptoRow : OpenClaim := { program := "ytejdgmdebfkkeaa", sum := "4acf0dce84047a2473d4a4b0a93278d0624c3f5e586ab0b31c59666dddf61203", func := "loop.example/g00495/laws.FnExactSameBag", spec := "fnExactSameBag", unfollowed := true, recurses := true, apart := false, narrowed := true }
def FnExactSameBagUptoSaid : Prop := fnExactSameBagUptoRow.holds Try.pinned (OpenSpec.upto fnExactSameBagSpec)

/-- 'laws.FnExactAliasOf', WHERE WHAT IT READS IS OF BULK AT MOST 1048576: true; the input reads as it did. -/
def fnExactAliasOfUptoRow : OpenClaim := { program := "ytejdgmdebfkkeaa", sum := "4acf0dce84047a2473d4a4b0a93278d0624c3f5e586ab0b31c59666dddf61203", func := "loop.example/g00495/laws.FnExactAliasOf", spec := "fnExactAliasOf", recurses := true, loops := true, apart := false, narrowed := true }
def FnExactAliasOfUptoSaid : Prop := fnExactAliasOfUptoRow.holds Try.pinned (OpenSpec.upto fnExactAliasOfSpec)

/-- 'laws.FnExactPlanSize', WHERE WHAT IT READS IS OF BULK AT MOST 1048576: true; the input reads as it did. -/
def fnExactPlanSizeUptoRow : OpenClaim := { program := "ytejdgmdebfkkeaa", sum := "4acf0dce84047a2473d4a4b0a93278d0624c3f5e586ab0b31c59666dddf61203", func := "loop.example/g00495/laws.FnExactPlanSize", spec := "fnExactPlanSize", recurses := true, loops := true, apart := false, narrowed := true }
def FnExactPlanSizeUptoSaid : Prop := fnExactPlanSizeUptoRow.holds Try.pinned (OpenSpec.upto fnExactPlanSizeSpec)

/-- 'laws.FnExactPlanDepth', WHERE WHAT IT READS IS OF BULK AT MOST 1048576: true; the input reads as it did. -/
def fnExactPlanDepthUptoRow : OpenClaim := { program := "ytejdgmdebfkkeaa", sum := "4acf0dce84047a2473d4a4b0a93278d0624c3f5e586ab0b31c59666dddf61203", func := "loop.example/g00495/laws.FnExactPlanDepth", spec := "fnExactPlanDepth", recurses := true, loops := true, apart := false, narrowed := true }
def FnExactPlanDepthUptoSaid : Prop := fnExactPlanDepthUptoRow.holds Try.pinned (OpenSpec.upto fnExactPlanDepthSpec)

/-- 'laws.FnExactSamePExpr', WHERE WHAT IT READS IS OF BULK AT MOST 1048576: true; the input reads as it did. -/
def fnExactSamePExprUptoRow : OpenClaim := { program := "ytejdgmdebfkkeaa", sum := "4acf0dce84047a2473d4a4b0a93278d0624c3f5e586ab0b31c59666dddf61203", func := "loop.example/g00495/laws.FnExactSamePExpr", spec := "fnExactSamePExpr", unfollowed := true, recurses := true, loops := true, apart := false, narrowed := true }
def FnExactSamePExprUptoSaid : Prop := fnExactSamePExprUptoRow.holds Try.pinned (OpenSpec.upto fnExactSamePExprSpec)

/-- 'laws.FnExactSamePlan', WHERE WHAT IT READS IS OF BULK AT MOST 1048576: true; the input reads as it did. -/
def fnExactSamePlanUptoRow : OpenClaim := { program := "ytejdgmdebfkkeaa", sum := "4acf0dce84047a2473d4a4b0a93278d0624c3f5e586ab0b31c59666dddf61203", func := "loop.example/g00495/laws.FnExactSamePlan", spec := "fnExactSamePlan", unfollowed := true, recurses := true, loops := true, apart := false, narrowed := true }
def FnExactSamePlanUptoSaid : Prop := fnExactSamePlanUptoRow.holds Try.pinned (OpenSpec.upto fnExactSamePlanSpec)

/-- 'laws.FnExactSameSPlan', WHERE WHAT IT READS IS OF BULK AT MOST 1048576: true; the input reads as it did. -/
def fnExactSameSPlanUptoRow : OpenClaim := { program := "ytejdgmdebfkkeaa", sum := "4acf0dce84047a2473d4a4b0a93278d0624c3f5e586ab0b31c59666dddf61203", func := "loop.example/g00495/laws.FnExactSameSPlan", spec := "fnExactSameSPlan", unfollowed := true, recurses := true, loops := true, apart := false, narrowed := true }
def FnExactSameSPlanUptoSaid : Prop := fnExactSameSPlanUptoRow.holds Try.pinned (OpenSpec.upto fnExactSameSPlanSpec)

end Rows
end Go.Proofs.Ytejdgmdebfkkeaa
