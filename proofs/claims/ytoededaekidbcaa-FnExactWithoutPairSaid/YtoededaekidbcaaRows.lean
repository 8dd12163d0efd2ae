/-
  No cell of these rows narrows 'for every input' (looked for: loops, veiled, ifaces, maps, wideKeys, modest, calm, conditions, laid).
  DERIVED. THE GIVEN ROWS OF THIS SEAT. 3 by the template 'for every input the law returns true; each argument reads behind the call as it read before'; 0 by the template 'total and deterministic' (their statements: YtoededaekidbcaaTotals.lean).
  GIVEN WITH THE SEED: the statements are not yours to turn. If you find one false, say at which input.
  Laid BY PROGRAM, IN A SANDBOX (cutbox-rows.mjs): the forced cells as the released guide's own fill.sh prints them over the translation e34c48661299a1f9… (all of the seat's roots in one cut). By AI agents, Wed Nov 11 2026. No macro, syntax, notation, axiom, sorry.
-/
import Derived.Test.YtoededaekidbcaaChecked
import GoSem.Claim
import GoSem.ClaimJoined
import GoSem.ClaimMapViews
import Derived.JoinedTies
import Derived.KernelRfl
namespace Go.Proofs.Ytoededaekidbcaa
/- THE CELL 'sum', in the pinned program and in every row, IS THE sha256 OF THE DUMP (.gsa) THAT YtoededaekidbcaaProg.lean LOADS. Nothing in Lean hashes anything: it is a label: what it is worth is what the hold of that sum in a sandbox is worth. -/
noncomputable def Try.pinned : Pinned := { name := "ytoededaekidbcaa", sum := "e34c48661299a1f9d4d9cfc8a6a2701c586655175c2f93ac0ffae2e7f4614a11", checked := Try.checked }
namespace Rows
def none {H : Type} : Left H := { results := [], args := [] }

/-- 'laws.FnExactPairsOf': WHATEVER THE INPUT: true; the input reads as it did. -/
def fnExactPairsOfSpec : ChangeSpec := { name := "fnExactPairsOf", fn := fun _ => fun
  | [d] => { results := [.lit (.bool true)], args := [d] }
  | _ => none }
def fnExactPairsOfRow : OpenClaim := { program := "ytoededaekidbcaa", sum := "e34c48661299a1f9d4d9cfc8a6a2701c586655175c2f93ac0ffae2e7f4614a11", func := "loop.example/g00495/laws.FnExactPairsOf", spec := "fnExactPairsOf", unfollowed := true, recurses := true, apart := false }
def FnExactPairsOfSaid : Prop := fnExactPairsOfRow.holds Try.pinned (OpenSpec.ofChange fnExactPairsOfSpec)

/-- ITS FALSE NEIGHBOUR: 'it returns false'. Refute it at one input. -/
def fnExactPairsOfWrong : ChangeSpec := { name := "fnExactPairsOf", fn := fun _ => fun
  | [d] => { results := [.lit (.bool false)], args := [d] }
  | _ => none }
def FnExactPairsOfWrongFalsely : Prop := fnExactPairsOfRow.holds Try.pinned (OpenSpec.ofChange fnExactPairsOfWrong)

/-- 'laws.FnExactWithoutPair': WHATEVER THE INPUT: true; the input reads as it did. -/
def fnExactWithoutPairSpec : ChangeSpec := { name := "fnExactWithoutPair", fn := fun _ => fun
  | [d1, d2] => { results := [.lit (.bool true)], args := [d1, d2] }
  | _ => none }
def fnExactWithoutPairRow : OpenClaim := { program := "ytoededaekidbcaa", sum := "e34c48661299a1f9d4d9cfc8a6a2701c586655175c2f93ac0ffae2e7f4614a11", func := "loop.example/g00495/laws.FnExactWithoutPair", spec := "fnExactWithoutPair", unfollowed := true, recurses := true, apart := false }
def FnExactWithoutPairSaid : Prop := fnExactWithoutPairRow.holds Try.pinned (OpenSpec.ofChange fnExactWithoutPairSpec)

/-- ITS FALSE NEIGHBOUR: 'it returns false'. Refute it at one input. -/
def fnExactWithoutPairWrong : ChangeSpec := { name := "fnExactWithoutPair", fn := fun _ => fun
  | [d1, d2] => { results := [.lit (.bool false)], args := [d1, d2] }
  | _ => none }
def FnExactWithoutPairWrongFalsely : Prop := fnExactWithoutPairRow.holds Try.pinned (OpenSpec.ofChange fnExactWithoutPairWrong)

/-- 'laws.FnExactSameBag': WHATEVER THE INPUT: true; the input reads as it did. -/
def fnExactSameBagSpec : ChangeSpec := { name := "fnExactSameBag", fn := fun _ => fun
  | [d1, d2] => { results := [.lit (.bool true)], args := [d1, d2] }
  | _ => none }
def fnExactSameBagRow : OpenClaim := { program := "ytoededaekidbcaa", sum := "e34c48661299a1f9d4d9cfc8a6a2701c586655175c2f93ac0ffae2e7f4614a11", func := "loop.example/g00495/laws.FnExactSameBag", spec := "fnExactSameBag", unfollowed := true, recurses := true, apart := false }
def FnExactSameBagSaid : Prop := fnExactSameBagRow.holds Try.pinned (OpenSpec.ofChange fnExactSameBagSpec)

/-- ITS FALSE NEIGHBOUR: 'it returns false'. Refute it at one input. -/
def fnExactSameBagWrong : ChangeSpec := { name := "fnExactSameBag", fn := fun _ => fun
  | [d1, d2] => { results := [.lit (.bool false)], args := [d1, d2] }
  | _ => none }
def FnExactSameBagWrongFalsely : Prop := fnExactSameBagRow.holds Try.pinned (OpenSpec.ofChange fnExactSameBagWrong)

/- THE SECOND FORM. 'bulk': how many values and letters a reading holds, each counted each time it is reached (what is shared counts as often as it is met; a slice's spare places count too). A statement '..UptoSaid' is the law's where the arguments, and the package variables that the reading takes, are together of bulk at most 1048576: NARROWER than '..Said'. Prove '..Said' where nothing that the law and all that it calls make is longer than what came in: it says more and counts as full. Else prove '..UptoSaid'. A law counts once. -/
mutual
def uptoBulk {H : Type} : DataW H → Nat
  | .lit (.string bytes) => bytes.length + 1
  | .lit _ => 1
  | .nil => 1
  | .ptr d => uptoBulk d + 1
  | .slice elems spare => uptoBulkAll elems + uptoBulkAll spare + 1
  | .agg parts => uptoBulkAll parts + 1
  | .iface _ d => uptoBulk d + 1
  | .map entries => uptoBulkEntries entries + 1
  | .held _ => 1
def uptoBulkAll {H : Type} : List (DataW H) → Nat
  | [] => 0
  | d :: r => uptoBulk d + uptoBulkAll r
def uptoBulkEntries {H : Type} : List (Lit × DataW H) → Nat
  | [] => 0
  | x :: r => uptoBulkEntry x + uptoBulkEntries r
def uptoBulkEntry {H : Type} : Lit × DataW H → Nat
  | (.string bytes, d) => bytes.length + uptoBulk d + 1
  | (_, d) => uptoBulk d + 1
 end
def uptoSmall : (H : Type) → List (DataW H) → Bool := fun _ ds => decide (uptoBulkAll ds ≤ 1048576)
def OpenSpec.upto (s : _root_.Go.ChangeSpec) : _root_.Go.OpenSpec := { _root_.Go.OpenSpec.ofChange s with cond := some uptoSmall }

/-- 'laws.FnExactPairsOf', WHERE WHAT IT READS IS OF BULK AT MOST 1048576: true; the input reads as it did. -/
def fnExactPairsOfUptoRow : OpenClaim := { program := "ytoededaekidbcaa", sum := "e34c48661299a1f9d4d9cfc8a6a2701c586655175c2f93ac0ffae2e7f4614a11", func := "loop.example/g00495/laws.FnExactPairsOf", spec := "fnExactPairsOf", unfollowed := true, recurses := true, apart := false, narrowed := true }
def FnExactPairsOfUptoSaid : Prop := fnExactPairsOfUptoRow.holds Try.pinned (OpenSpec.upto fnExactPairsOfSpec)

/-- 'laws.FnExactWithoutPair', WHERE WHAT IT READS IS OF BULK AT MOST 1048576: true; the input reads as it did. -/
def fnExactWithoutPairUptoRow : OpenClaim := { program := "ytoededaekidbcaa", sum := "e34c48661299a1f9d4d9cfc8a6a2701c586655175c2f93ac0ffae2e7f4614a11", func := "loop.example/g00495/laws.FnExactWithoutPair", spec := "fnExactWithoutPair", unfollowed := true, recurses := true, apart := false, narrowed := true }
def FnExactWithoutPairUptoSaid : Prop := fnExactWithoutPairUptoRow.holds Try.pinned (OpenSpec.upto fnExactWithoutPairSpec)

/-- 'laws.FnExactSameBag', WHERE WHAT IT READS IS OF BULK AT MOST 1048576: true; the input reads as it did. -/
def fnExactSameBagUptoRow : OpenClaim := { program := "ytoededaekidbcaa", sum := "e34c48661299a1f9d4d9cfc8a6a2701c586655175c2f93ac0ffae2e7f4614a11", func := "loop.example/g00495/laws.FnExactSameBag", spec := "fnExactSameBag", unfollowed := true, recurses := true, apart := false, narrowed := true }
def FnExactSameBagUptoSaid : Prop := fnExactSameBagUptoRow.holds Try.pinned (OpenSpec.upto fnExactSameBagSpec)

end Rows
end Go.Proofs.Ytoededaekidbcaa
