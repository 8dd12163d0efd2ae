/-
  NARROWER THAN 'FOR EVERY INPUT', by the rows' own cells (each row's printed sentence says how): FnExactTypeIn: loops · FnExactWellTyped: loops · FnExactPlanTypes: loops.
  DERIVED. THE GIVEN ROWS OF THIS SEAT. 3 by the template 'for every input the law returns true; each argument reads behind the call as it read before'; 0 by the template 'total and deterministic' (their statements: YtehmlklfbllgcaaGreatTotals.lean).
  GIVEN WITH THE SEED: the statements are not yours to turn. If you find one false, say at which input.
  Laid BY PROGRAM, IN A SANDBOX (cutbox-rows.mjs): the forced cells as the released guide's own fill.sh prints them over the translation d9f6398ff1bce546… (all of the seat's roots in one cut). By AI agents, Wed Nov 11 2026. No macro, syntax, notation, axiom, sorry.
-/
import Derived.Test.YtehmlklfbllgcaaGreatChecked
import GoSem.Claim
import GoSem.ClaimJoined
import GoSem.ClaimMapViews
import Derived.JoinedTies
import Derived.KernelRfl
namespace Go.Proofs.YtehmlklfbllgcaaGreat
/- THE CELL 'sum', in the pinned program and in every row, IS THE sha256 OF THE DUMP (.gsa) THAT YtehmlklfbllgcaaGreatProg.lean LOADS. Nothing in Lean hashes anything: it is a label: what it is worth is what the hold of that sum in a sandbox is worth. -/
noncomputable def Tryz.pinned : Pinned := { name := "ytehmlklfbllgcaagreat", sum := "d9f6398ff1bce54664f8b56ed000ff13551c5b631dc619f0c96c9fab9a3576ba", checked := Tryz.checked }
namespace Rows
def none {H : Type} : Left H := { results := [], args := [] }

/-- 'laws.FnExactTypeIn': WHATEVER THE INPUT: true; the input reads as it did. -/
def fnExactTypeInSpec : ChangeSpec := { name := "fnExactTypeIn", fn := fun _ => fun
  | [d1, d2, d3] => { results := [.lit (.bool true)], args := [d1, d2, d3] }
  | _ => none }
def fnExactTypeInRow : OpenClaim := { program := "ytehmlklfbllgcaagreat", sum := "d9f6398ff1bce54664f8b56ed000ff13551c5b631dc619f0c96c9fab9a3576ba", func := "loop.example/g00495/laws.FnExactTypeIn", spec := "fnExactTypeIn", unfollowed := true, recurses := true, loops := true, apart := false }
def FnExactTypeInSaid : Prop := fnExactTypeInRow.holds Tryz.pinned (OpenSpec.ofChange fnExactTypeInSpec)

/-- ITS FALSE NEIGHBOUR: 'it returns false'. Refute it at one input. -/
def fnExactTypeInWrong : ChangeSpec := { name := "fnExactTypeIn", fn := fun _ => fun
  | [d1, d2, d3] => { results := [.lit (.bool false)], args := [d1, d2, d3] }
  | _ => none }
def FnExactTypeInWrongFalsely : Prop := fnExactTypeInRow.holds Tryz.pinned (OpenSpec.ofChange fnExactTypeInWrong)

/-- 'laws.FnExactWellTyped': WHATEVER THE INPUT: true; the input reads as it did. -/
def fnExactWellTypedSpec : ChangeSpec := { name := "fnExactWellTyped", fn := fun _ => fun
  | [d1, d2] => { results := [.lit (.bool true)], args := [d1, d2] }
  | _ => none }
def fnExactWellTypedRow : OpenClaim := { program := "ytehmlklfbllgcaagreat", sum := "d9f6398ff1bce54664f8b56ed000ff13551c5b631dc619f0c96c9fab9a3576ba", func := "loop.example/g00495/laws.FnExactWellTyped", spec := "fnExactWellTyped", unfollowed := true, recurses := true, loops := true, apart := false }
def FnExactWellTypedSaid : Prop := fnExactWellTypedRow.holds Tryz.pinned (OpenSpec.ofChange fnExactWellTypedSpec)

/-- ITS FALSE NEIGHBOUR: 'it returns false'. Refute it at one input. -/
def fnExactWellTypedWrong : ChangeSpec := { name := "fnExactWellTyped", fn := fun _ => fun
  | [d1, d2] => { results := [.lit (.bool false)], args := [d1, d2] }
  | _ => none }
def FnExactWellTypedWrongFalsely : Prop := fnExactWellTypedRow.holds Tryz.pinned (OpenSpec.ofChange fnExactWellTypedWrong)

/-- 'laws.FnExactPlanTypes': WHATEVER THE INPUT: true; the input reads as it did. -/
def fnExactPlanTypesSpec : ChangeSpec := { name := "fnExactPlanTypes", fn := fun _ => fun
  | [d1, d2, d3] => { results := [.lit (.bool true)], args := [d1, d2, d3] }
  | _ => none }
def fnExactPlanTypesRow : OpenClaim := { program := "ytehmlklfbllgcaagreat", sum := "d9f6398ff1bce54664f8b56ed000ff13551c5b631dc619f0c96c9fab9a3576ba", func := "loop.example/g00495/laws.FnExactPlanTypes", spec := "fnExactPlanTypes", unfollowed := true, recurses := true, loops := true, apart := false }
def FnExactPlanTypesSaid : Prop := fnExactPlanTypesRow.holds Tryz.pinned (OpenSpec.ofChange fnExactPlanTypesSpec)

/-- ITS FALSE NEIGHBOUR: 'it returns false'. Refute it at one input. -/
def fnExactPlanTypesWrong : ChangeSpec := { name := "fnExactPlanTypes", fn := fun _ => fun
  | [d1, d2, d3] => { results := [.lit (.bool false)], args := [d1, d2, d3] }
  | _ => none }
def FnExactPlanTypesWrongFalsely : Prop := fnExactPlanTypesRow.holds Tryz.pinned (OpenSpec.ofChange fnExactPlanTypesWrong)

/- THE SECOND FORM. 'bulk': how many values and letters a reading holds, each counted each time it is reached (what is shared counts as often as it is met; a slice's spare places count too). A statement '..UptoSaid' is the law's where the arguments, and the package variables that the reading takes, are together of bulk at most 1048576: NARROWER than '..Said'. Prove '..Said' where nothing that the law and all that it calls make is longer than what came in: it says more and counts as full. Else prove '..UptoSaid'. A law counts once. -/
mutual
def uptoBulk {H : Type} : DataW H → Nat
  | .lit (.string bytes) => bytes.length + 1
  | .lit _ => 1
  | .nil => 1
  | .ptr d => uptoBulk d + 1
  | .slice elems spare => uptoBulkAll elems + uptoBulkAll spare + 1
  | .agg parts => uptoBulkAll parts + 1
  | .iface _ d => uptoBulk d + 1
  | .map entries => uptoBulkEntries entries + 1
  | .held _ => 1
def uptoBulkAll {H : Type} : List (DataW H) → Nat
  | [] => 0
  | d :: r => uptoBulk d + uptoBulkAll r
def uptoBulkEntries {H : Type} : List (Lit × DataW H) → Nat
  | [] => 0
  | x :: r => uptoBulkEntry x + uptoBulkEntries r
def uptoBulkEntry {H : Type} : Lit × DataW H → Nat
  | (.string bytes, d) => bytes.length + uptoBulk d + 1
  | (_, d) => uptoBulk d + 1
 end
def uptoSmall : (H : Type) → List (DataW H) → Bool := fun _ ds => decide (uptoBulkAll ds ≤ 1048576)
def OpenSpec.upto (s : _root_.Go.ChangeSpec) : _root_.Go.OpenSpec := { _root_.Go.OpenSpec.ofChange s with cond := some uptoSmall }

/-- 'laws.FnExactTypeIn', WHERE WHAT IT READS IS OF BULK AT MOST 1048576: true; the input reads as it did. -/
def fnExactTypeInUptoRow : OpenClaim := { program := "ytehmlklfbllgcaagreat", sum := "d9f6398ff1bce54664f8b56ed000ff13551c5b631dc619f0c96c9fab9a3576ba", func := "loop.example/g00495/laws.FnExactTypeIn", spec := "fnExactTypeIn", unfollowed := true, recurses := true, loops := true, apart := false, narrowed := true }
def FnExactTypeInUptoSaid : Prop := fnExactTypeInUptoRow.holds Tryz.pinned (OpenSpec.upto fnExactTypeInSpec)

/-- 'laws.FnExactWellTyped', WHERE WHAT IT READS IS OF BULK AT MOST 1048576: true; the input reads as it did. -/
def fnExactWellTypedUptoRow : OpenClaim := { program := "ytehmlklfbllgcaagreat", sum := "d9f6398ff1bce54664f8b56ed000ff13551c5b631dc619f0c96c9fab9a3576ba", func := "loop.example/g00495/laws.FnExactWellTyped", spec := "fnExactWellTyped", unfollowed := true, recurses := true, loops := true, apart := false, narrowed := true }
def FnExactWellTypedUptoSaid : Prop := fnExactWellTypedUptoRow.holds Tryz.pinned (OpenSpec.upto fnExactWellTypedSpec)

/-- 'laws.FnExactPlanTypes', WHERE WHAT IT READS IS OF BULK AT MOST 1048576: true; the input reads as it did. -/
def fnExactPlanTypesUptoRow : OpenClaim := { program := "ytehmlklfbllgcaagreat", sum := "d9f6398ff1bce54664f8b56ed000ff13551c5b631dc619f0c96c9fab9a3576ba", func := "loop.example/g00495/laws.FnExactPlanTypes", spec := "fnExactPlanTypes", unfollowed := true, recurses := true, loops := true, apart := false, narrowed := true }
def FnExactPlanTypesUptoSaid : Prop := fnExactPlanTypesUptoRow.holds Tryz.pinned (OpenSpec.upto fnExactPlanTypesSpec)

end Rows
end Go.Proofs.YtehmlklfbllgcaaGreat
