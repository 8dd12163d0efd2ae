/-
  NARROWER THAN 'FOR EVERY INPUT', by the rows' own cells (each row's printed sentence says how): FnExactAliasOf: loops · FnExactScopeOf: loops.
  DERIVED. THE GIVEN ROWS OF THIS SEAT. 3 by the template 'for every input the law returns true; each argument reads behind the call as it read before'; 0 by the template 'total and deterministic' (their statements: YtoagpmhdgllchaaTotals.lean).
  GIVEN WITH THE SEED: the statements are not yours to turn. If you find one false, say at which input.
  Laid BY PROGRAM, IN A SANDBOX (cutbox-rows.mjs): the forced cells as the released guide's own fill.sh prints them over the translation 66b2f02c255e713a… (all of the seat's roots in one cut). By AI agents, Wed Nov 11 2026. No macro, syntax, notation, axiom, sorry.
-/
import Derived.Test.YtoagpmhdgllchaaChecked
import GoSem.Claim
import GoSem.ClaimJoined
import GoSem.ClaimMapViews
import Derived.JoinedTies
import Derived.KernelRfl
namespace Go.Proofs.Ytoagpmhdgllchaa
/- THE CELL 'sum', in the pinned program and in every row, IS THE sha256 OF THE DUMP (.gsa) THAT YtoagpmhdgllchaaProg.lean LOADS. Nothing in Lean hashes anything: it is a label: what it is worth is what the hold of that sum in a sandbox is worth. -/
noncomputable def Try.pinned : Pinned := { name := "ytoagpmhdgllchaa", sum := "66b2f02c255e713a341f213b27cfb3d3686bba25db023ffaccb4af786aff1984", checked := Try.checked }
namespace Rows
def none {H : Type} : Left H := { results := [], args := [] }

/-- 'laws.FnScope': WHATEVER THE INPUT: true; the input reads as it did. -/
def fnScopeSpec : ChangeSpec := { name := "fnScope", fn := fun _ => fun
  | [d] => { results := [.lit (.bool true)], args := [d] }
  | _ => none }
def fnScopeRow : OpenClaim := { program := "ytoagpmhdgllchaa", sum := "66b2f02c255e713a341f213b27cfb3d3686bba25db023ffaccb4af786aff1984", func := "loop.example/g00495/laws.FnScope", spec := "fnScope", unfollowed := true, recurses := true, apart := false }
def FnScopeSaid : Prop := fnScopeRow.holds Try.pinned (OpenSpec.ofChange fnScopeSpec)

/-- ITS FALSE NEIGHBOUR: 'it returns false'. Refute it at one input. -/
def fnScopeWrong : ChangeSpec := { name := "fnScope", fn := fun _ => fun
  | [d] => { results := [.lit (.bool false)], args := [d] }
  | _ => none }
def FnScopeWrongFalsely : Prop := fnScopeRow.holds Try.pinned (OpenSpec.ofChange fnScopeWrong)

/-- 'laws.FnExactAliasOf': WHATEVER THE INPUT: true; the input reads as it did. -/
def fnExactAliasOfSpec : ChangeSpec := { name := "fnExactAliasOf", fn := fun _ => fun
  | [d] => { results := [.lit (.bool true)], args := [d] }
  | _ => none }
def fnExactAliasOfRow : OpenClaim := { program := "ytoagpmhdgllchaa", sum := "66b2f02c255e713a341f213b27cfb3d3686bba25db023ffaccb4af786aff1984", func := "loop.example/g00495/laws.FnExactAliasOf", spec := "fnExactAliasOf", recurses := true, loops := true, apart := false }
def FnExactAliasOfSaid : Prop := fnExactAliasOfRow.holds Try.pinned (OpenSpec.ofChange fnExactAliasOfSpec)

/-- ITS FALSE NEIGHBOUR: 'it returns false'. Refute it at one input. -/
def fnExactAliasOfWrong : ChangeSpec := { name := "fnExactAliasOf", fn := fun _ => fun
  | [d] => { results := [.lit (.bool false)], args := [d] }
  | _ => none }
def FnExactAliasOfWrongFalsely : Prop := fnExactAliasOfRow.holds Try.pinned (OpenSpec.ofChange fnExactAliasOfWrong)

/-- 'laws.FnExactScopeOf': WHATEVER THE INPUT: true; the input reads as it did. -/
def fnExactScopeOfSpec : ChangeSpec := { name := "fnExactScopeOf", fn := fun _ => fun
  | [d1, d2] => { results := [.lit (.bool true)], args := [d1, d2] }
  | _ => none }
def fnExactScopeOfRow : OpenClaim := { program := "ytoagpmhdgllchaa", sum := "66b2f02c255e713a341f213b27cfb3d3686bba25db023ffaccb4af786aff1984", func := "loop.example/g00495/laws.FnExactScopeOf", spec := "fnExactScopeOf", unfollowed := true, recurses := true, loops := true, apart := false }
def FnExactScopeOfSaid : Prop := fnExactScopeOfRow.holds Try.pinned (OpenSpec.ofChange fnExactScopeOfSpec)

/-- ITS FALSE NEIGHBOUR: 'it returns false'. Refute it at one input. -/
def fnExactScopeOfWrong : ChangeSpec := { name := "fnExactScopeOf", fn := fun _ => fun
  | [d1, d2] => { results := [.lit (.bool false)], args := [d1, d2] }
  | _ => none }
def FnExactScopeOfWrongFalsely : Prop := fnExactScopeOfRow.holds Try.pinned (OpenSpec.ofChange fnExactScopeOfWrong)

/- THE SECOND FORM. 'bulk': how many values and letters a reading holds, each counted each time it is reached (what is shared counts as often as it is met; a slice's spare places count too). A statement '..UptoSaid' is the law's where the arguments, and the package variables that the reading takes, are together of bulk at most 1048576: NARROWER than '..Said'. Prove '..Said' where nothing that the law and all that it calls make is longer than what came in: it says more and counts as full. Else prove '..UptoSaid'. A law counts once. -/
mutual
def uptoBulk {H : Type} : DataW H → Nat
  | .lit (.string bytes) => bytes.length + 1
  | .lit _ => 1
  | .nil => 1
  | .ptr d => uptoBulk d + 1
  | .slice elems spare => uptoBulkAll elems + uptoBulkAll spare + 1
  | .agg parts => uptoBulkAll parts + 1
  | .iface _ d => uptoBulk d + 1
  | .map entries => uptoBulkEntries entries + 1
  | .held _ => 1
def uptoBulkAll {H : Type} : List (DataW H) → Nat
  | [] => 0
  | d :: r => uptoBulk d + uptoBulkAll r
def uptoBulkEntries {H : Type} : List (Lit × DataW H) → Nat
  | [] => 0
  | x :: r => uptoBulkEntry x + uptoBulkEntries r
def uptoBulkEntry {H : Type} : Lit × DataW H → Nat
  | (.string bytes, d) => bytes.length + uptoBulk d + 1
  | (_, d) => uptoBulk d + 1
 end
def uptoSmall : (H : Type) → List (DataW H) → Bool := fun _ ds => decide (uptoBulkAll ds ≤ 1048576)
def OpenSpec.upto (s : _root_.Go.ChangeSpec) : _root_.Go.OpenSpec := { _root_.Go.OpenSpec.ofChange s with cond := some uptoSmall }

/-- 'laws.FnScope', WHERE WHAT IT READS IS OF BULK AT MOST 1048576: true; the input reads as it did. -/
def fnScopeUptoRow : OpenClaim := { program := "ytoagpmhdgllchaa", sum := "66b2f02c255e713a341f213b27cfb3d3686bba25db023ffaccb4af786aff1984", func := "loop.example/g00495/laws.FnScope", spec := "fnScope", unfollowed := true, recurses := true, apart := false, narrowed := true }
def FnScopeUptoSaid : Prop := fnScopeUptoRow.holds Try.pinned (OpenSpec.upto fnScopeSpec)

/-- 'laws.FnExactAliasOf', WHERE WHAT IT READS IS OF BULK AT MOST 1048576: true; the input reads as it did. -/
def fnExactAliasOfUptoRow : OpenClaim := { program := "ytoagpmhdgllchaa", sum := "66b2f02c255e713a341f213b27cfb3d3686bba25db023ffaccb4af786aff1984", func := "loop.example/g00495/laws.FnExactAliasOf", spec := "fnExactAliasOf", recurses := true, loops := true, apart := false, narrowed := true }
def FnExactAliasOfUptoSaid : Prop := fnExactAliasOfUptoRow.holds Try.pinned (OpenSpec.upto fnExactAliasOfSpec)

/-- 'laws.FnExactScopeOf', WHERE WHAT IT READS IS OF BULK AT MOST 1048576: true; the input reads as it did. -/
def fnExactScopeOfUptoRow : OpenClaim := { program := "ytoagpmhdgllchaa", sum := "66b2f02c255e713a341f213b27cfb3d3686bba25db023ffaccb4af786aff1984", func := "loop.example/g00495/laws.FnExactScopeOf", spec := "fnExactScopeOf", unfollowed := true, recurses := true, loops := true, apart := false, narrowed := true }
def FnExactScopeOfUptoSaid : Prop := fnExactScopeOfUptoRow.holds Try.pinned (OpenSpec.upto fnExactScopeOfSpec)

end Rows
end Go.Proofs.Ytoagpmhdgllchaa
