/-
  NARROWER THAN 'FOR EVERY INPUT', by the rows' own cells (each row's printed sentence says how): FnExactVarsOf: loops · FnExactFreeIn: loops · FnExactPartsOf: loops · FnExactLifted: loops.
  DERIVED. THE GIVEN ROWS OF THIS SEAT. 8 by the template 'for every input the law returns true; each argument reads behind the call as it read before'; 0 by the template 'total and deterministic' (their statements: YtehmlklfbllgcaaTotals.lean).
  GIVEN WITH THE SEED: the statements are not yours to turn. If you find one false, say at which input.
  Laid BY PROGRAM, IN A SANDBOX (cutbox-rows.mjs): the forced cells as the released guide's own fill.sh prints them over the translation a2daf52213042f73… (all of the seat's roots in one cut). By AI agents, Wed Nov 11 2026. No macro, syntax, notation, axiom, sorry.
-/
import Derived.Test.YtehmlklfbllgcaaChecked
import GoSem.Claim
import GoSem.ClaimJoined
import GoSem.ClaimMapViews
import Derived.JoinedTies
import Derived.KernelRfl
namespace Go.Proofs.Ytehmlklfbllgcaa
/- THE CELL 'sum', in the pinned program and in every row, IS THE sha256 OF THE DUMP (.gsa) THAT YtehmlklfbllgcaaProg.lean LOADS. Nothing in Lean hashes anything: it is a label: what it is worth is what the hold of that sum in a sandbox is worth. -/
noncomputable def Try.pinned : Pinned := { name := "ytehmlklfbllgcaa", sum := "a2daf52213042f730d23ed8c72d32814db46896a1794a364182eb155e0061b4a", checked := Try.checked }
namespace Rows
def none {H : Type} : Left H := { results := [], args := [] }

/-- 'laws.FnFlipBack': WHATEVER THE INPUT: true; the input reads as it did. -/
def fnFlipBackSpec : ChangeSpec := { name := "fnFlipBack", fn := fun _ => fun
  | [d] => { results := [.lit (.bool true)], args := [d] }
  | _ => none }
def fnFlipBackRow : OpenClaim := { program := "ytehmlklfbllgcaa", sum := "a2daf52213042f730d23ed8c72d32814db46896a1794a364182eb155e0061b4a", func := "loop.example/g00495/laws.FnFlipBack", spec := "fnFlipBack", apart := false }
def FnFlipBackSaid : Prop := fnFlipBackRow.holds Try.pinned (OpenSpec.ofChange fnFlipBackSpec)

/-- ITS FALSE NEIGHBOUR: 'it returns false'. Refute it at one input. -/
def fnFlipBackWrong : ChangeSpec := { name := "fnFlipBack", fn := fun _ => fun
  | [d] => { results := [.lit (.bool false)], args := [d] }
  | _ => none }
def FnFlipBackWrongFalsely : Prop := fnFlipBackRow.holds Try.pinned (OpenSpec.ofChange fnFlipBackWrong)

/-- 'laws.FnStars': WHATEVER THE INPUT: true; the input reads as it did. -/
def fnStarsSpec : ChangeSpec := { name := "fnStars", fn := fun _ => fun
  | [d] => { results := [.lit (.bool true)], args := [d] }
  | _ => none }
def fnStarsRow : OpenClaim := { program := "ytehmlklfbllgcaa", sum := "a2daf52213042f730d23ed8c72d32814db46896a1794a364182eb155e0061b4a", func := "loop.example/g00495/laws.FnStars", spec := "fnStars", apart := false }
def FnStarsSaid : Prop := fnStarsRow.holds Try.pinned (OpenSpec.ofChange fnStarsSpec)

/-- ITS FALSE NEIGHBOUR: 'it returns false'. Refute it at one input. -/
def fnStarsWrong : ChangeSpec := { name := "fnStars", fn := fun _ => fun
  | [d] => { results := [.lit (.bool false)], args := [d] }
  | _ => none }
def FnStarsWrongFalsely : Prop := fnStarsRow.holds Try.pinned (OpenSpec.ofChange fnStarsWrong)

/-- 'laws.FnDistinctRows': WHATEVER THE INPUT: true; the input reads as it did. -/
def fnDistinctRowsSpec : ChangeSpec := { name := "fnDistinctRows", fn := fun _ => fun
  | [d] => { results := [.lit (.bool true)], args := [d] }
  | _ => none }
def fnDistinctRowsRow : OpenClaim := { program := "ytehmlklfbllgcaa", sum := "a2daf52213042f730d23ed8c72d32814db46896a1794a364182eb155e0061b4a", func := "loop.example/g00495/laws.FnDistinctRows", spec := "fnDistinctRows", unfollowed := true, recurses := true, apart := false }
def FnDistinctRowsSaid : Prop := fnDistinctRowsRow.holds Try.pinned (OpenSpec.ofChange fnDistinctRowsSpec)

/-- ITS FALSE NEIGHBOUR: 'it returns false'. Refute it at one input. -/
def fnDistinctRowsWrong : ChangeSpec := { name := "fnDistinctRows", fn := fun _ => fun
  | [d] => { results := [.lit (.bool false)], args := [d] }
  | _ => none }
def FnDistinctRowsWrongFalsely : Prop := fnDistinctRowsRow.holds Try.pinned (OpenSpec.ofChange fnDistinctRowsWrong)

/-- 'laws.FnTypesHold': WHATEVER THE INPUT: true; the input reads as it did. -/
def fnTypesHoldSpec : ChangeSpec := { name := "fnTypesHold", fn := fun _ => fun
  | [d] => { results := [.lit (.bool true)], args := [d] }
  | _ => none }
def fnTypesHoldRow : OpenClaim := { program := "ytehmlklfbllgcaa", sum := "a2daf52213042f730d23ed8c72d32814db46896a1794a364182eb155e0061b4a", func := "loop.example/g00495/laws.FnTypesHold", spec := "fnTypesHold", apart := false }
def FnTypesHoldSaid : Prop := fnTypesHoldRow.holds Try.pinned (OpenSpec.ofChange fnTypesHoldSpec)

/-- ITS FALSE NEIGHBOUR: 'it returns false'. Refute it at one input. -/
def fnTypesHoldWrong : ChangeSpec := { name := "fnTypesHold", fn := fun _ => fun
  | [d] => { results := [.lit (.bool false)], args := [d] }
  | _ => none }
def FnTypesHoldWrongFalsely : Prop := fnTypesHoldRow.holds Try.pinned (OpenSpec.ofChange fnTypesHoldWrong)

/-- 'laws.FnExactVarsOf': WHATEVER THE INPUT: true; the input reads as it did. -/
def fnExactVarsOfSpec : ChangeSpec := { name := "fnExactVarsOf", fn := fun _ => fun
  | [d] => { results := [.lit (.bool true)], args := [d] }
  | _ => none }
def fnExactVarsOfRow : OpenClaim := { program := "ytehmlklfbllgcaa", sum := "a2daf52213042f730d23ed8c72d32814db46896a1794a364182eb155e0061b4a", func := "loop.example/g00495/laws.FnExactVarsOf", spec := "fnExactVarsOf", recurses := true, loops := true, apart := false }
def FnExactVarsOfSaid : Prop := fnExactVarsOfRow.holds Try.pinned (OpenSpec.ofChange fnExactVarsOfSpec)

/-- ITS FALSE NEIGHBOUR: 'it returns false'. Refute it at one input. -/
def fnExactVarsOfWrong : ChangeSpec := { name := "fnExactVarsOf", fn := fun _ => fun
  | [d] => { results := [.lit (.bool false)], args := [d] }
  | _ => none }
def FnExactVarsOfWrongFalsely : Prop := fnExactVarsOfRow.holds Try.pinned (OpenSpec.ofChange fnExactVarsOfWrong)

/-- 'laws.FnExactFreeIn': WHATEVER THE INPUT: true; the input reads as it did. -/
def fnExactFreeInSpec : ChangeSpec := { name := "fnExactFreeIn", fn := fun _ => fun
  | [d1, d2] => { results := [.lit (.bool true)], args := [d1, d2] }
  | _ => none }
def fnExactFreeInRow : OpenClaim := { program := "ytehmlklfbllgcaa", sum := "a2daf52213042f730d23ed8c72d32814db46896a1794a364182eb155e0061b4a", func := "loop.example/g00495/laws.FnExactFreeIn", spec := "fnExactFreeIn", recurses := true, loops := true, apart := false }
def FnExactFreeInSaid : Prop := fnExactFreeInRow.holds Try.pinned (OpenSpec.ofChange fnExactFreeInSpec)

/-- ITS FALSE NEIGHBOUR: 'it returns false'. Refute it at one input. -/
def fnExactFreeInWrong : ChangeSpec := { name := "fnExactFreeIn", fn := fun _ => fun
  | [d1, d2] => { results := [.lit (.bool false)], args := [d1, d2] }
  | _ => none }
def FnExactFreeInWrongFalsely : Prop := fnExactFreeInRow.holds Try.pinned (OpenSpec.ofChange fnExactFreeInWrong)

/-- 'laws.FnExactPartsOf': WHATEVER THE INPUT: true; the input reads as it did. -/
def fnExactPartsOfSpec : ChangeSpec := { name := "fnExactPartsOf", fn := fun _ => fun
  | [d] => { results := [.lit (.bool true)], args := [d] }
  | _ => none }
def fnExactPartsOfRow : OpenClaim := { program := "ytehmlklfbllgcaa", sum := "a2daf52213042f730d23ed8c72d32814db46896a1794a364182eb155e0061b4a", func := "loop.example/g00495/laws.FnExactPartsOf", spec := "fnExactPartsOf", unfollowed := true, recurses := true, loops := true, apart := false }
def FnExactPartsOfSaid : Prop := fnExactPartsOfRow.holds Try.pinned (OpenSpec.ofChange fnExactPartsOfSpec)

/-- ITS FALSE NEIGHBOUR: 'it returns false'. Refute it at one input. -/
def fnExactPartsOfWrong : ChangeSpec := { name := "fnExactPartsOf", fn := fun _ => fun
  | [d] => { results := [.lit (.bool false)], args := [d] }
  | _ => none }
def FnExactPartsOfWrongFalsely : Prop := fnExactPartsOfRow.holds Try.pinned (OpenSpec.ofChange fnExactPartsOfWrong)

/-- 'laws.FnExactLifted': WHATEVER THE INPUT: true; the input reads as it did. -/
def fnExactLiftedSpec : ChangeSpec := { name := "fnExactLifted", fn := fun _ => fun
  | [d1, d2] => { results := [.lit (.bool true)], args := [d1, d2] }
  | _ => none }
def fnExactLiftedRow : OpenClaim := { program := "ytehmlklfbllgcaa", sum := "a2daf52213042f730d23ed8c72d32814db46896a1794a364182eb155e0061b4a", func := "loop.example/g00495/laws.FnExactLifted", spec := "fnExactLifted", unfollowed := true, recurses := true, loops := true, apart := false }
def FnExactLiftedSaid : Prop := fnExactLiftedRow.holds Try.pinned (OpenSpec.ofChange fnExactLiftedSpec)

/-- ITS FALSE NEIGHBOUR: 'it returns false'. Refute it at one input. -/
def fnExactLiftedWrong : ChangeSpec := { name := "fnExactLifted", fn := fun _ => fun
  | [d1, d2] => { results := [.lit (.bool false)], args := [d1, d2] }
  | _ => none }
def FnExactLiftedWrongFalsely : Prop := fnExactLiftedRow.holds Try.pinned (OpenSpec.ofChange fnExactLiftedWrong)

/- THE SECOND FORM. 'bulk': how many values and letters a reading holds, each counted each time it is reached (what is shared counts as often as it is met; a slice's spare places count too). A statement '..UptoSaid' is the law's where the arguments, and the package variables that the reading takes, are together of bulk at most 1048576: NARROWER than '..Said'. Prove '..Said' where nothing that the law and all that it calls make is longer than what came in: it says more and counts as full. Else prove '..UptoSaid'. A law counts once. -/
mutual
def uptoBulk {H : Type} : DataW H → Nat
  | .lit (.string bytes) => bytes.length + 1
  | .lit _ => 1
  | .nil => 1
  | .ptr d => uptoBulk d + 1
  | .slice elems spare => uptoBulkAll elems + uptoBulkAll spare + 1
  | .agg parts => uptoBulkAll parts + 1
  | .iface _ d => uptoBulk d + 1
  | .map entries => uptoBulkEntries entries + 1
  | .held _ => 1
def uptoBulkAll {H : Type} : List (DataW H) → Nat
  | [] => 0
  | d :: r => uptoBulk d + uptoBulkAll r
def uptoBulkEntries {H : Type} : List (Lit × DataW H) → Nat
  | [] => 0
  | x :: r => uptoBulkEntry x + uptoBulkEntries r
def uptoBulkEntry {H : Type} : Lit × DataW H → Nat
  | (.string bytes, d) => bytes.length + uptoBulk d + 1
  | (_, d) => uptoBulk d + 1
 end
def uptoSmall : (H : Type) → List (DataW H) → Bool := fun _ ds => decide (uptoBulkAll ds ≤ 1048576)
def OpenSpec.upto (s : _root_.Go.ChangeSpec) : _root_.Go.OpenSpec := { _root_.Go.OpenSpec.ofChange s with cond := some uptoSmall }

/-- 'laws.FnFlipBack', WHERE WHAT IT READS IS OF BULK AT MOST 1048576: true; the input reads as it did. -/
def fnFlipBackUptoRow : OpenClaim := { program := "ytehmlklfbllgcaa", sum := "a2daf52213042f730d23ed8c72d32814db46896a1794a364182eb155e0061b4a", func := "loop.example/g00495/laws.FnFlipBack", spec := "fnFlipBack", apart := false, narrowed := true }
def FnFlipBackUptoSaid : Prop := fnFlipBackUptoRow.holds Try.pinned (OpenSpec.upto fnFlipBackSpec)

/-- 'laws.FnStars', WHERE WHAT IT READS IS OF BULK AT MOST 1048576: true; the input reads as it did. -/
def fnStarsUptoRow : OpenClaim := { program := "ytehmlklfbllgcaa", sum := "a2daf52213042f730d23ed8c72d32814db46896a1794a364182eb155e0061b4a", func := "loop.example/g00495/laws.FnStars", spec := "fnStars", apart := false, narrowed := true }
def FnStarsUptoSaid : Prop := fnStarsUptoRow.holds Try.pinned (OpenSpec.upto fnStarsSpec)

/-- 'laws.FnDistinctRows', WHERE WHAT IT READS IS OF BULK AT MOST 1048576: true; the input reads as it did. -/
def fnDistinctRowsUptoRow : OpenClaim := { program := "ytehmlklfbllgcaa", sum := "a2daf52213042f730d23ed8c72d32814db46896a1794a364182eb155e0061b4a", func := "loop.example/g00495/laws.FnDistinctRows", spec := "fnDistinctRows", unfollowed := true, recurses := true, apart := false, narrowed := true }
def FnDistinctRowsUptoSaid : Prop := fnDistinctRowsUptoRow.holds Try.pinned (OpenSpec.upto fnDistinctRowsSpec)

/-- 'laws.FnTypesHold', WHERE WHAT IT READS IS OF BULK AT MOST 1048576: true; the input reads as it did. -/
def fnTypesHoldUptoRow : OpenClaim := { program := "ytehmlklfbllgcaa", sum := "a2daf52213042f730d23ed8c72d32814db46896a1794a364182eb155e0061b4a", func := "loop.example/g00495/laws.FnTypesHold", spec := "fnTypesHold", apart := false, narrowed := true }
def FnTypesHoldUptoSaid : Prop := fnTypesHoldUptoRow.holds Try.pinned (OpenSpec.upto fnTypesHoldSpec)

/-- 'laws.FnExactVarsOf', WHERE WHAT IT READS IS OF BULK AT MOST 1048576: true; the input reads as it did. -/
def fnExactVarsOfUptoRow : OpenClaim := { program := "ytehmlklfbllgcaa", sum := "a2daf52213042f730d23ed8c72d32814db46896a1794a364182eb155e0061b4a", func := "loop.example/g00495/laws.FnExactVarsOf", spec := "fnExactVarsOf", recurses := true, loops := true, apart := false, narrowed := true }
def FnExactVarsOfUptoSaid : Prop := fnExactVarsOfUptoRow.holds Try.pinned (OpenSpec.upto fnExactVarsOfSpec)

/-- 'laws.FnExactFreeIn', WHERE WHAT IT READS IS OF BULK AT MOST 1048576: true; the input reads as it did. -/
def fnExactFreeInUptoRow : OpenClaim := { program := "ytehmlklfbllgcaa", sum := "a2daf52213042f730d23ed8c72d32814db46896a1794a364182eb155e0061b4a", func := "loop.example/g00495/laws.FnExactFreeIn", spec := "fnExactFreeIn", recurses := true, loops := true, apart := false, narrowed := true }
def FnExactFreeInUptoSaid : Prop := fnExactFreeInUptoRow.holds Try.pinned (OpenSpec.upto fnExactFreeInSpec)

/-- 'laws.FnExactPartsOf', WHERE WHAT IT READS IS OF BULK AT MOST 1048576: true; the input reads as it did. -/
def fnExactPartsOfUptoRow : OpenClaim := { program := "ytehmlklfbllgcaa", sum := "a2daf52213042f730d23ed8c72d32814db46896a1794a364182eb155e0061b4a", func := "loop.example/g00495/laws.FnExactPartsOf", spec := "fnExactPartsOf", unfollowed := true, recurses := true, loops := true, apart := false, narrowed := true }
def FnExactPartsOfUptoSaid : Prop := fnExactPartsOfUptoRow.holds Try.pinned (OpenSpec.upto fnExactPartsOfSpec)

/-- 'laws.FnExactLifted', WHERE WHAT IT READS IS OF BULK AT MOST 1048576: true; the input reads as it did. -/
def fnExactLiftedUptoRow : OpenClaim := { program := "ytehmlklfbllgcaa", sum := "a2daf52213042f730d23ed8c72d32814db46896a1794a364182eb155e0061b4a", func := "loop.example/g00495/laws.FnExactLifted", spec := "fnExactLifted", unfollowed := true, recurses := true, loops := true, apart := false, narrowed := true }
def FnExactLiftedUptoSaid : Prop := fnExactLiftedUptoRow.holds Try.pinned (OpenSpec.upto fnExactLiftedSpec)

end Rows
end Go.Proofs.Ytehmlklfbllgcaa
