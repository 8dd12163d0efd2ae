/-
  No cell of these rows narrows 'for every input' (looked for: loops, veiled, ifaces, maps, wideKeys, modest, calm, conditions, laid).
  DERIVED. THE GIVEN ROWS OF THIS SEAT. 12 by the template 'for every input the law returns true; each argument reads behind the call as it read before'; 0 by the template 'total and deterministic' (their statements: YtmcbblcnfdgfmaaTotals.lean).
  GIVEN WITH THE SEED: the statements are not yours to turn. If you find one false, say at which input.
  Laid BY PROGRAM, IN A SANDBOX (cutbox-rows.mjs): the forced cells as the released guide's own fill.sh prints them over the translation c924ff4dcb0658f1… (all of the seat's roots in one cut). By AI agents, Wed Nov 11 2026. No macro, syntax, notation, axiom, sorry.
-/
import Derived.Test.YtmcbblcnfdgfmaaChecked
import GoSem.Claim
import GoSem.ClaimJoined
import GoSem.ClaimMapViews
import Derived.JoinedTies
import Derived.KernelRfl
namespace Go.Proofs.Ytmcbblcnfdgfmaa
/- THE CELL 'sum', in the pinned program and in every row, IS THE sha256 OF THE DUMP (.gsa) THAT YtmcbblcnfdgfmaaProg.lean LOADS. Nothing in Lean hashes anything: it is a label: what it is worth is what the hold of that sum in a sandbox is worth. -/
noncomputable def Try.pinned : Pinned := { name := "ytmcbblcnfdgfmaa", sum := "c924ff4dcb0658f1eac9954ffcb38cbb218323e4af39584a0369656cd24db467", checked := Try.checked }
namespace Rows
def none {H : Type} : Left H := { results := [], args := [] }

/-- 'laws.FnExactColAt': WHATEVER THE INPUT: true; the input reads as it did. -/
def fnExactColAtSpec : ChangeSpec := { name := "fnExactColAt", fn := fun _ => fun
  | [d1, d2] => { results := [.lit (.bool true)], args := [d1, d2] }
  | _ => none }
def fnExactColAtRow : OpenClaim := { program := "ytmcbblcnfdgfmaa", sum := "c924ff4dcb0658f1eac9954ffcb38cbb218323e4af39584a0369656cd24db467", func := "loop.example/g00495/laws.FnExactColAt", spec := "fnExactColAt", unfollowed := true, recurses := true, apart := false }
def FnExactColAtSaid : Prop := fnExactColAtRow.holds Try.pinned (OpenSpec.ofChange fnExactColAtSpec)

/-- ITS FALSE NEIGHBOUR: 'it returns false'. Refute it at one input. -/
def fnExactColAtWrong : ChangeSpec := { name := "fnExactColAt", fn := fun _ => fun
  | [d1, d2] => { results := [.lit (.bool false)], args := [d1, d2] }
  | _ => none }
def FnExactColAtWrongFalsely : Prop := fnExactColAtRow.holds Try.pinned (OpenSpec.ofChange fnExactColAtWrong)

/-- 'laws.FnExactSameRows': WHATEVER THE INPUT: true; the input reads as it did. -/
def fnExactSameRowsSpec : ChangeSpec := { name := "fnExactSameRows", fn := fun _ => fun
  | [d1, d2] => { results := [.lit (.bool true)], args := [d1, d2] }
  | _ => none }
def fnExactSameRowsRow : OpenClaim := { program := "ytmcbblcnfdgfmaa", sum := "c924ff4dcb0658f1eac9954ffcb38cbb218323e4af39584a0369656cd24db467", func := "loop.example/g00495/laws.FnExactSameRows", spec := "fnExactSameRows", unfollowed := true, recurses := true, apart := false }
def FnExactSameRowsSaid : Prop := fnExactSameRowsRow.holds Try.pinned (OpenSpec.ofChange fnExactSameRowsSpec)

/-- ITS FALSE NEIGHBOUR: 'it returns false'. Refute it at one input. -/
def fnExactSameRowsWrong : ChangeSpec := { name := "fnExactSameRows", fn := fun _ => fun
  | [d1, d2] => { results := [.lit (.bool false)], args := [d1, d2] }
  | _ => none }
def FnExactSameRowsWrongFalsely : Prop := fnExactSameRowsRow.holds Try.pinned (OpenSpec.ofChange fnExactSameRowsWrong)

/-- 'laws.FnDistinctRows': WHATEVER THE INPUT: true; the input reads as it did. -/
def fnDistinctRowsSpec : ChangeSpec := { name := "fnDistinctRows", fn := fun _ => fun
  | [d] => { results := [.lit (.bool true)], args := [d] }
  | _ => none }
def fnDistinctRowsRow : OpenClaim := { program := "ytmcbblcnfdgfmaa", sum := "c924ff4dcb0658f1eac9954ffcb38cbb218323e4af39584a0369656cd24db467", func := "loop.example/g00495/laws.FnDistinctRows", spec := "fnDistinctRows", unfollowed := true, recurses := true, apart := false }
def FnDistinctRowsSaid : Prop := fnDistinctRowsRow.holds Try.pinned (OpenSpec.ofChange fnDistinctRowsSpec)

/-- ITS FALSE NEIGHBOUR: 'it returns false'. Refute it at one input. -/
def fnDistinctRowsWrong : ChangeSpec := { name := "fnDistinctRows", fn := fun _ => fun
  | [d] => { results := [.lit (.bool false)], args := [d] }
  | _ => none }
def FnDistinctRowsWrongFalsely : Prop := fnDistinctRowsRow.holds Try.pinned (OpenSpec.ofChange fnDistinctRowsWrong)

/-- 'laws.FnExactSameCatalog': WHATEVER THE INPUT: true; the input reads as it did. -/
def fnExactSameCatalogSpec : ChangeSpec := { name := "fnExactSameCatalog", fn := fun _ => fun
  | [d1, d2] => { results := [.lit (.bool true)], args := [d1, d2] }
  | _ => none }
def fnExactSameCatalogRow : OpenClaim := { program := "ytmcbblcnfdgfmaa", sum := "c924ff4dcb0658f1eac9954ffcb38cbb218323e4af39584a0369656cd24db467", func := "loop.example/g00495/laws.FnExactSameCatalog", spec := "fnExactSameCatalog", unfollowed := true, recurses := true, apart := false }
def FnExactSameCatalogSaid : Prop := fnExactSameCatalogRow.holds Try.pinned (OpenSpec.ofChange fnExactSameCatalogSpec)

/-- ITS FALSE NEIGHBOUR: 'it returns false'. Refute it at one input. -/
def fnExactSameCatalogWrong : ChangeSpec := { name := "fnExactSameCatalog", fn := fun _ => fun
  | [d1, d2] => { results := [.lit (.bool false)], args := [d1, d2] }
  | _ => none }
def FnExactSameCatalogWrongFalsely : Prop := fnExactSameCatalogRow.holds Try.pinned (OpenSpec.ofChange fnExactSameCatalogWrong)

/-- 'laws.FnCatalogAt': WHATEVER THE INPUT: true; the input reads as it did. -/
def fnCatalogAtSpec : ChangeSpec := { name := "fnCatalogAt", fn := fun _ => fun
  | [d] => { results := [.lit (.bool true)], args := [d] }
  | _ => none }
def fnCatalogAtRow : OpenClaim := { program := "ytmcbblcnfdgfmaa", sum := "c924ff4dcb0658f1eac9954ffcb38cbb218323e4af39584a0369656cd24db467", func := "loop.example/g00495/laws.FnCatalogAt", spec := "fnCatalogAt", unfollowed := true, recurses := true, apart := false }
def FnCatalogAtSaid : Prop := fnCatalogAtRow.holds Try.pinned (OpenSpec.ofChange fnCatalogAtSpec)

/-- ITS FALSE NEIGHBOUR: 'it returns false'. Refute it at one input. -/
def fnCatalogAtWrong : ChangeSpec := { name := "fnCatalogAt", fn := fun _ => fun
  | [d] => { results := [.lit (.bool false)], args := [d] }
  | _ => none }
def FnCatalogAtWrongFalsely : Prop := fnCatalogAtRow.holds Try.pinned (OpenSpec.ofChange fnCatalogAtWrong)

/-- 'laws.FnExactCatalogOk': WHATEVER THE INPUT: true; the input reads as it did. -/
def fnExactCatalogOkSpec : ChangeSpec := { name := "fnExactCatalogOk", fn := fun _ => fun
  | [d] => { results := [.lit (.bool true)], args := [d] }
  | _ => none }
def fnExactCatalogOkRow : OpenClaim := { program := "ytmcbblcnfdgfmaa", sum := "c924ff4dcb0658f1eac9954ffcb38cbb218323e4af39584a0369656cd24db467", func := "loop.example/g00495/laws.FnExactCatalogOk", spec := "fnExactCatalogOk", unfollowed := true, recurses := true, apart := false }
def FnExactCatalogOkSaid : Prop := fnExactCatalogOkRow.holds Try.pinned (OpenSpec.ofChange fnExactCatalogOkSpec)

/-- ITS FALSE NEIGHBOUR: 'it returns false'. Refute it at one input. -/
def fnExactCatalogOkWrong : ChangeSpec := { name := "fnExactCatalogOk", fn := fun _ => fun
  | [d] => { results := [.lit (.bool false)], args := [d] }
  | _ => none }
def FnExactCatalogOkWrongFalsely : Prop := fnExactCatalogOkRow.holds Try.pinned (OpenSpec.ofChange fnExactCatalogOkWrong)

/-- 'laws.FnExactDistinctRows': WHATEVER THE INPUT: true; the input reads as it did. -/
def fnExactDistinctRowsSpec : ChangeSpec := { name := "fnExactDistinctRows", fn := fun _ => fun
  | [d] => { results := [.lit (.bool true)], args := [d] }
  | _ => none }
def fnExactDistinctRowsRow : OpenClaim := { program := "ytmcbblcnfdgfmaa", sum := "c924ff4dcb0658f1eac9954ffcb38cbb218323e4af39584a0369656cd24db467", func := "loop.example/g00495/laws.FnExactDistinctRows", spec := "fnExactDistinctRows", unfollowed := true, recurses := true, apart := false }
def FnExactDistinctRowsSaid : Prop := fnExactDistinctRowsRow.holds Try.pinned (OpenSpec.ofChange fnExactDistinctRowsSpec)

/-- ITS FALSE NEIGHBOUR: 'it returns false'. Refute it at one input. -/
def fnExactDistinctRowsWrong : ChangeSpec := { name := "fnExactDistinctRows", fn := fun _ => fun
  | [d] => { results := [.lit (.bool false)], args := [d] }
  | _ => none }
def FnExactDistinctRowsWrongFalsely : Prop := fnExactDistinctRowsRow.holds Try.pinned (OpenSpec.ofChange fnExactDistinctRowsWrong)

/-- 'laws.FnUnTypes': WHATEVER THE INPUT: true; the input reads as it did. -/
def fnUnTypesSpec : ChangeSpec := { name := "fnUnTypes", fn := fun _ => fun
  | [d] => { results := [.lit (.bool true)], args := [d] }
  | _ => none }
def fnUnTypesRow : OpenClaim := { program := "ytmcbblcnfdgfmaa", sum := "c924ff4dcb0658f1eac9954ffcb38cbb218323e4af39584a0369656cd24db467", func := "loop.example/g00495/laws.FnUnTypes", spec := "fnUnTypes", apart := false }
def FnUnTypesSaid : Prop := fnUnTypesRow.holds Try.pinned (OpenSpec.ofChange fnUnTypesSpec)

/-- ITS FALSE NEIGHBOUR: 'it returns false'. Refute it at one input. -/
def fnUnTypesWrong : ChangeSpec := { name := "fnUnTypes", fn := fun _ => fun
  | [d] => { results := [.lit (.bool false)], args := [d] }
  | _ => none }
def FnUnTypesWrongFalsely : Prop := fnUnTypesRow.holds Try.pinned (OpenSpec.ofChange fnUnTypesWrong)

/-- 'laws.FnExactSameDb': WHATEVER THE INPUT: true; the input reads as it did. -/
def fnExactSameDbSpec : ChangeSpec := { name := "fnExactSameDb", fn := fun _ => fun
  | [d1, d2] => { results := [.lit (.bool true)], args := [d1, d2] }
  | _ => none }
def fnExactSameDbRow : OpenClaim := { program := "ytmcbblcnfdgfmaa", sum := "c924ff4dcb0658f1eac9954ffcb38cbb218323e4af39584a0369656cd24db467", func := "loop.example/g00495/laws.FnExactSameDb", spec := "fnExactSameDb", unfollowed := true, recurses := true, apart := false }
def FnExactSameDbSaid : Prop := fnExactSameDbRow.holds Try.pinned (OpenSpec.ofChange fnExactSameDbSpec)

/-- ITS FALSE NEIGHBOUR: 'it returns false'. Refute it at one input. -/
def fnExactSameDbWrong : ChangeSpec := { name := "fnExactSameDb", fn := fun _ => fun
  | [d1, d2] => { results := [.lit (.bool false)], args := [d1, d2] }
  | _ => none }
def FnExactSameDbWrongFalsely : Prop := fnExactSameDbRow.holds Try.pinned (OpenSpec.ofChange fnExactSameDbWrong)

/-- 'laws.FnExactRowTypes': WHATEVER THE INPUT: true; the input reads as it did. -/
def fnExactRowTypesSpec : ChangeSpec := { name := "fnExactRowTypes", fn := fun _ => fun
  | [d1, d2] => { results := [.lit (.bool true)], args := [d1, d2] }
  | _ => none }
def fnExactRowTypesRow : OpenClaim := { program := "ytmcbblcnfdgfmaa", sum := "c924ff4dcb0658f1eac9954ffcb38cbb218323e4af39584a0369656cd24db467", func := "loop.example/g00495/laws.FnExactRowTypes", spec := "fnExactRowTypes", apart := false }
def FnExactRowTypesSaid : Prop := fnExactRowTypesRow.holds Try.pinned (OpenSpec.ofChange fnExactRowTypesSpec)

/-- ITS FALSE NEIGHBOUR: 'it returns false'. Refute it at one input. -/
def fnExactRowTypesWrong : ChangeSpec := { name := "fnExactRowTypes", fn := fun _ => fun
  | [d1, d2] => { results := [.lit (.bool false)], args := [d1, d2] }
  | _ => none }
def FnExactRowTypesWrongFalsely : Prop := fnExactRowTypesRow.holds Try.pinned (OpenSpec.ofChange fnExactRowTypesWrong)

/-- 'laws.FnScope': WHATEVER THE INPUT: true; the input reads as it did. -/
def fnScopeSpec : ChangeSpec := { name := "fnScope", fn := fun _ => fun
  | [d] => { results := [.lit (.bool true)], args := [d] }
  | _ => none }
def fnScopeRow : OpenClaim := { program := "ytmcbblcnfdgfmaa", sum := "c924ff4dcb0658f1eac9954ffcb38cbb218323e4af39584a0369656cd24db467", func := "loop.example/g00495/laws.FnScope", spec := "fnScope", unfollowed := true, recurses := true, apart := false }
def FnScopeSaid : Prop := fnScopeRow.holds Try.pinned (OpenSpec.ofChange fnScopeSpec)

/-- ITS FALSE NEIGHBOUR: 'it returns false'. Refute it at one input. -/
def fnScopeWrong : ChangeSpec := { name := "fnScope", fn := fun _ => fun
  | [d] => { results := [.lit (.bool false)], args := [d] }
  | _ => none }
def FnScopeWrongFalsely : Prop := fnScopeRow.holds Try.pinned (OpenSpec.ofChange fnScopeWrong)

/-- 'laws.FnExactEmptyDb': WHATEVER THE INPUT: true; the input reads as it did. -/
def fnExactEmptyDbSpec : ChangeSpec := { name := "fnExactEmptyDb", fn := fun _ => fun
  | [d] => { results := [.lit (.bool true)], args := [d] }
  | _ => none }
def fnExactEmptyDbRow : OpenClaim := { program := "ytmcbblcnfdgfmaa", sum := "c924ff4dcb0658f1eac9954ffcb38cbb218323e4af39584a0369656cd24db467", func := "loop.example/g00495/laws.FnExactEmptyDb", spec := "fnExactEmptyDb", apart := false }
def FnExactEmptyDbSaid : Prop := fnExactEmptyDbRow.holds Try.pinned (OpenSpec.ofChange fnExactEmptyDbSpec)

/-- ITS FALSE NEIGHBOUR: 'it returns false'. Refute it at one input. -/
def fnExactEmptyDbWrong : ChangeSpec := { name := "fnExactEmptyDb", fn := fun _ => fun
  | [d] => { results := [.lit (.bool false)], args := [d] }
  | _ => none }
def FnExactEmptyDbWrongFalsely : Prop := fnExactEmptyDbRow.holds Try.pinned (OpenSpec.ofChange fnExactEmptyDbWrong)

/- THE SECOND FORM. 'bulk': how many values and letters a reading holds, each counted each time it is reached (what is shared counts as often as it is met; a slice's spare places count too). A statement '..UptoSaid' is the law's where the arguments, and the package variables that the reading takes, are together of bulk at most 1048576: NARROWER than '..Said'. Prove '..Said' where nothing that the law and all that it calls make is longer than what came in: it says more and counts as full. Else prove '..UptoSaid'. A law counts once. -/
mutual
def uptoBulk {H : Type} : DataW H → Nat
  | .lit (.string bytes) => bytes.length + 1
  | .lit _ => 1
  | .nil => 1
  | .ptr d => uptoBulk d + 1
  | .slice elems spare => uptoBulkAll elems + uptoBulkAll spare + 1
  | .agg parts => uptoBulkAll parts + 1
  | .iface _ d => uptoBulk d + 1
  | .map entries => uptoBulkEntries entries + 1
  | .held _ => 1
def uptoBulkAll {H : Type} : List (DataW H) → Nat
  | [] => 0
  | d :: r => uptoBulk d + uptoBulkAll r
def uptoBulkEntries {H : Type} : List (Lit × DataW H) → Nat
  | [] => 0
  | x :: r => uptoBulkEntry x + uptoBulkEntries r
def uptoBulkEntry {H : Type} : Lit × DataW H → Nat
  | (.string bytes, d) => bytes.length + uptoBulk d + 1
  | (_, d) => uptoBulk d + 1
 end
def uptoSmall : (H : Type) → List (DataW H) → Bool := fun _ ds => decide (uptoBulkAll ds ≤ 1048576)
def OpenSpec.upto (s : _root_.Go.ChangeSpec) : _root_.Go.OpenSpec := { _root_.Go.OpenSpec.ofChange s with cond := some uptoSmall }

/-- 'laws.FnExactColAt', WHERE WHAT IT READS IS OF BULK AT MOST 1048576: true; the input reads as it did. -/
def fnExactColAtUptoRow : OpenClaim := { program := "ytmcbblcnfdgfmaa", sum := "c924ff4dcb0658f1eac9954ffcb38cbb218323e4af39584a0369656cd24db467", func := "loop.example/g00495/laws.FnExactColAt", spec := "fnExactColAt", unfollowed := true, recurses := true, apart := false, narrowed := true }
def FnExactColAtUptoSaid : Prop := fnExactColAtUptoRow.holds Try.pinned (OpenSpec.upto fnExactColAtSpec)

/-- 'laws.FnExactSameRows', WHERE WHAT IT READS IS OF BULK AT MOST 1048576: true; the input reads as it did. -/
def fnExactSameRowsUptoRow : OpenClaim := { program := "ytmcbblcnfdgfmaa", sum := "c924ff4dcb0658f1eac9954ffcb38cbb218323e4af39584a0369656cd24db467", func := "loop.example/g00495/laws.FnExactSameRows", spec := "fnExactSameRows", unfollowed := true, recurses := true, apart := false, narrowed := true }
def FnExactSameRowsUptoSaid : Prop := fnExactSameRowsUptoRow.holds Try.pinned (OpenSpec.upto fnExactSameRowsSpec)

/-- 'laws.FnDistinctRows', WHERE WHAT IT READS IS OF BULK AT MOST 1048576: true; the input reads as it did. -/
def fnDistinctRowsUptoRow : OpenClaim := { program := "ytmcbblcnfdgfmaa", sum := "c924ff4dcb0658f1eac9954ffcb38cbb218323e4af39584a0369656cd24db467", func := "loop.example/g00495/laws.FnDistinctRows", spec := "fnDistinctRows", unfollowed := true, recurses := true, apart := false, narrowed := true }
def FnDistinctRowsUptoSaid : Prop := fnDistinctRowsUptoRow.holds Try.pinned (OpenSpec.upto fnDistinctRowsSpec)

/-- 'laws.FnExactSameCatalog', WHERE WHAT IT READS IS OF BULK AT MOST 1048576: true; the input reads as it did. -/
def fnExactSameCatalogUptoRow : OpenClaim := { program := "ytmcbblcnfdgfmaa", sum := "c924ff4dcb0658f1eac9954ffcb38cbb218323e4af39584a0369656cd24db467", func := "loop.example/g00495/laws.FnExactSameCatalog", spec := "fnExactSameCatalog", unfollowed := true, recurses := true, apart := false, narrowed := true }
def FnExactSameCatalogUptoSaid : Prop := fnExactSameCatalogUptoRow.holds Try.pinned (OpenSpec.upto fnExactSameCatalogSpec)

/-- 'laws.FnCatalogAt', WHERE WHAT IT READS IS OF BULK AT MOST 1048576: true; the input reads as it did. -/
def fnCatalogAtUptoRow : OpenClaim := { program := "ytmcbblcnfdgfmaa", sum := "c924ff4dcb0658f1eac9954ffcb38cbb218323e4af39584a0369656cd24db467", func := "loop.example/g00495/laws.FnCatalogAt", spec := "fnCatalogAt", unfollowed := true, recurses := true, apart := false, narrowed := true }
def FnCatalogAtUptoSaid : Prop := fnCatalogAtUptoRow.holds Try.pinned (OpenSpec.upto fnCatalogAtSpec)

/-- 'laws.FnExactCatalogOk', WHERE WHAT IT READS IS OF BULK AT MOST 1048576: true; the input reads as it did. -/
def fnExactCatalogOkUptoRow : OpenClaim := { program := "ytmcbblcnfdgfmaa", sum := "c924ff4dcb0658f1eac9954ffcb38cbb218323e4af39584a0369656cd24db467", func := "loop.example/g00495/laws.FnExactCatalogOk", spec := "fnExactCatalogOk", unfollowed := true, recurses := true, apart := false, narrowed := true }
def FnExactCatalogOkUptoSaid : Prop := fnExactCatalogOkUptoRow.holds Try.pinned (OpenSpec.upto fnExactCatalogOkSpec)

/-- 'laws.FnExactDistinctRows', WHERE WHAT IT READS IS OF BULK AT MOST 1048576: true; the input reads as it did. -/
def fnExactDistinctRowsUptoRow : OpenClaim := { program := "ytmcbblcnfdgfmaa", sum := "c924ff4dcb0658f1eac9954ffcb38cbb218323e4af39584a0369656cd24db467", func := "loop.example/g00495/laws.FnExactDistinctRows", spec := "fnExactDistinctRows", unfollowed := true, recurses := true, apart := false, narrowed := true }
def FnExactDistinctRowsUptoSaid : Prop := fnExactDistinctRowsUptoRow.holds Try.pinned (OpenSpec.upto fnExactDistinctRowsSpec)

/-- 'laws.FnUnTypes', WHERE WHAT IT READS IS OF BULK AT MOST 1048576: true; the input reads as it did. -/
def fnUnTypesUptoRow : OpenClaim := { program := "ytmcbblcnfdgfmaa", sum := "c924ff4dcb0658f1eac9954ffcb38cbb218323e4af39584a0369656cd24db467", func := "loop.example/g00495/laws.FnUnTypes", spec := "fnUnTypes", apart := false, narrowed := true }
def FnUnTypesUptoSaid : Prop := fnUnTypesUptoRow.holds Try.pinned (OpenSpec.upto fnUnTypesSpec)

/-- 'laws.FnExactSameDb', WHERE WHAT IT READS IS OF BULK AT MOST 1048576: true; the input reads as it did. -/
def fnExactSameDbUptoRow : OpenClaim := { program := "ytmcbblcnfdgfmaa", sum := "c924ff4dcb0658f1eac9954ffcb38cbb218323e4af39584a0369656cd24db467", func := "loop.example/g00495/laws.FnExactSameDb", spec := "fnExactSameDb", unfollowed := true, recurses := true, apart := false, narrowed := true }
def FnExactSameDbUptoSaid : Prop := fnExactSameDbUptoRow.holds Try.pinned (OpenSpec.upto fnExactSameDbSpec)

/-- 'laws.FnExactRowTypes', WHERE WHAT IT READS IS OF BULK AT MOST 1048576: true; the input reads as it did. -/
def fnExactRowTypesUptoRow : OpenClaim := { program := "ytmcbblcnfdgfmaa", sum := "c924ff4dcb0658f1eac9954ffcb38cbb218323e4af39584a0369656cd24db467", func := "loop.example/g00495/laws.FnExactRowTypes", spec := "fnExactRowTypes", apart := false, narrowed := true }
def FnExactRowTypesUptoSaid : Prop := fnExactRowTypesUptoRow.holds Try.pinned (OpenSpec.upto fnExactRowTypesSpec)

/-- 'laws.FnScope', WHERE WHAT IT READS IS OF BULK AT MOST 1048576: true; the input reads as it did. -/
def fnScopeUptoRow : OpenClaim := { program := "ytmcbblcnfdgfmaa", sum := "c924ff4dcb0658f1eac9954ffcb38cbb218323e4af39584a0369656cd24db467", func := "loop.example/g00495/laws.FnScope", spec := "fnScope", unfollowed := true, recurses := true, apart := false, narrowed := true }
def FnScopeUptoSaid : Prop := fnScopeUptoRow.holds Try.pinned (OpenSpec.upto fnScopeSpec)

/-- 'laws.FnExactEmptyDb', WHERE WHAT IT READS IS OF BULK AT MOST 1048576: true; the input reads as it did. -/
def fnExactEmptyDbUptoRow : OpenClaim := { program := "ytmcbblcnfdgfmaa", sum := "c924ff4dcb0658f1eac9954ffcb38cbb218323e4af39584a0369656cd24db467", func := "loop.example/g00495/laws.FnExactEmptyDb", spec := "fnExactEmptyDb", apart := false, narrowed := true }
def FnExactEmptyDbUptoSaid : Prop := fnExactEmptyDbUptoRow.holds Try.pinned (OpenSpec.upto fnExactEmptyDbSpec)

end Rows
end Go.Proofs.Ytmcbblcnfdgfmaa
