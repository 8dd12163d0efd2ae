/-
  No cell of these rows narrows 'for every input' (looked for: loops, veiled, ifaces, maps, wideKeys, modest, calm, conditions, laid).
  DERIVED. THE GIVEN ROWS OF THIS SEAT. 8 by the template 'for every input the law returns true; each argument reads behind the call as it read before'; 0 by the template 'total and deterministic' (their statements: YtkchiflcpecbeaaTotals.lean).
  GIVEN WITH THE SEED: the statements are not yours to turn. If you find one false, say at which input.
  Laid BY PROGRAM, IN A SANDBOX (cutbox-rows.mjs): the forced cells as the released guide's own fill.sh prints them over the translation 7a2e27a3a4ea8b69… (all of the seat's roots in one cut). By AI agents, Wed Nov 11 2026. No macro, syntax, notation, axiom, sorry.
-/
import Derived.Test.YtkchiflcpecbeaaChecked
import GoSem.Claim
import GoSem.ClaimJoined
import GoSem.ClaimMapViews
import Derived.JoinedTies
import Derived.KernelRfl
namespace Go.Proofs.Ytkchiflcpecbeaa
/- THE CELL 'sum', in the pinned program and in every row, IS THE sha256 OF THE DUMP (.gsa) THAT YtkchiflcpecbeaaProg.lean LOADS. Nothing in Lean hashes anything: it is a label: what it is worth is what the hold of that sum in a sandbox is worth. -/
noncomputable def Try.pinned : Pinned := { name := "ytkchiflcpecbeaa", sum := "7a2e27a3a4ea8b69f9814ddc828eb7d11f1149bbf13b77524bac3bd693af3a35", checked := Try.checked }
namespace Rows
def none {H : Type} : Left H := { results := [], args := [] }

/-- 'laws.FnExactTypeText': WHATEVER THE INPUT: true; the input reads as it did. -/
def fnExactTypeTextSpec : ChangeSpec := { name := "fnExactTypeText", fn := fun _ => fun
  | [d] => { results := [.lit (.bool true)], args := [d] }
  | _ => none }
def fnExactTypeTextRow : OpenClaim := { program := "ytkchiflcpecbeaa", sum := "7a2e27a3a4ea8b69f9814ddc828eb7d11f1149bbf13b77524bac3bd693af3a35", func := "loop.example/g00495/laws.FnExactTypeText", spec := "fnExactTypeText", apart := false }
def FnExactTypeTextSaid : Prop := fnExactTypeTextRow.holds Try.pinned (OpenSpec.ofChange fnExactTypeTextSpec)

/-- ITS FALSE NEIGHBOUR: 'it returns false'. Refute it at one input. -/
def fnExactTypeTextWrong : ChangeSpec := { name := "fnExactTypeText", fn := fun _ => fun
  | [d] => { results := [.lit (.bool false)], args := [d] }
  | _ => none }
def FnExactTypeTextWrongFalsely : Prop := fnExactTypeTextRow.holds Try.pinned (OpenSpec.ofChange fnExactTypeTextWrong)

/-- 'laws.FnExactFlip': WHATEVER THE INPUT: true; the input reads as it did. -/
def fnExactFlipSpec : ChangeSpec := { name := "fnExactFlip", fn := fun _ => fun
  | [d1, d2, d3] => { results := [.lit (.bool true)], args := [d1, d2, d3] }
  | _ => none }
def fnExactFlipRow : OpenClaim := { program := "ytkchiflcpecbeaa", sum := "7a2e27a3a4ea8b69f9814ddc828eb7d11f1149bbf13b77524bac3bd693af3a35", func := "loop.example/g00495/laws.FnExactFlip", spec := "fnExactFlip", apart := false }
def FnExactFlipSaid : Prop := fnExactFlipRow.holds Try.pinned (OpenSpec.ofChange fnExactFlipSpec)

/-- ITS FALSE NEIGHBOUR: 'it returns false'. Refute it at one input. -/
def fnExactFlipWrong : ChangeSpec := { name := "fnExactFlip", fn := fun _ => fun
  | [d1, d2, d3] => { results := [.lit (.bool false)], args := [d1, d2, d3] }
  | _ => none }
def FnExactFlipWrongFalsely : Prop := fnExactFlipRow.holds Try.pinned (OpenSpec.ofChange fnExactFlipWrong)

/-- 'laws.FnExactMeet': WHATEVER THE INPUT: true; the input reads as it did. -/
def fnExactMeetSpec : ChangeSpec := { name := "fnExactMeet", fn := fun _ => fun
  | [d1, d2] => { results := [.lit (.bool true)], args := [d1, d2] }
  | _ => none }
def fnExactMeetRow : OpenClaim := { program := "ytkchiflcpecbeaa", sum := "7a2e27a3a4ea8b69f9814ddc828eb7d11f1149bbf13b77524bac3bd693af3a35", func := "loop.example/g00495/laws.FnExactMeet", spec := "fnExactMeet", apart := false }
def FnExactMeetSaid : Prop := fnExactMeetRow.holds Try.pinned (OpenSpec.ofChange fnExactMeetSpec)

/-- ITS FALSE NEIGHBOUR: 'it returns false'. Refute it at one input. -/
def fnExactMeetWrong : ChangeSpec := { name := "fnExactMeet", fn := fun _ => fun
  | [d1, d2] => { results := [.lit (.bool false)], args := [d1, d2] }
  | _ => none }
def FnExactMeetWrongFalsely : Prop := fnExactMeetRow.holds Try.pinned (OpenSpec.ofChange fnExactMeetWrong)

/-- 'laws.FnExactUnType': WHATEVER THE INPUT: true; the input reads as it did. -/
def fnExactUnTypeSpec : ChangeSpec := { name := "fnExactUnType", fn := fun _ => fun
  | [d1, d2] => { results := [.lit (.bool true)], args := [d1, d2] }
  | _ => none }
def fnExactUnTypeRow : OpenClaim := { program := "ytkchiflcpecbeaa", sum := "7a2e27a3a4ea8b69f9814ddc828eb7d11f1149bbf13b77524bac3bd693af3a35", func := "loop.example/g00495/laws.FnExactUnType", spec := "fnExactUnType", apart := false }
def FnExactUnTypeSaid : Prop := fnExactUnTypeRow.holds Try.pinned (OpenSpec.ofChange fnExactUnTypeSpec)

/-- ITS FALSE NEIGHBOUR: 'it returns false'. Refute it at one input. -/
def fnExactUnTypeWrong : ChangeSpec := { name := "fnExactUnType", fn := fun _ => fun
  | [d1, d2] => { results := [.lit (.bool false)], args := [d1, d2] }
  | _ => none }
def FnExactUnTypeWrongFalsely : Prop := fnExactUnTypeRow.holds Try.pinned (OpenSpec.ofChange fnExactUnTypeWrong)

/-- 'laws.FnExactFitsType': WHATEVER THE INPUT: true; the input reads as it did. -/
def fnExactFitsTypeSpec : ChangeSpec := { name := "fnExactFitsType", fn := fun _ => fun
  | [d1, d2] => { results := [.lit (.bool true)], args := [d1, d2] }
  | _ => none }
def fnExactFitsTypeRow : OpenClaim := { program := "ytkchiflcpecbeaa", sum := "7a2e27a3a4ea8b69f9814ddc828eb7d11f1149bbf13b77524bac3bd693af3a35", func := "loop.example/g00495/laws.FnExactFitsType", spec := "fnExactFitsType", apart := false }
def FnExactFitsTypeSaid : Prop := fnExactFitsTypeRow.holds Try.pinned (OpenSpec.ofChange fnExactFitsTypeSpec)

/-- ITS FALSE NEIGHBOUR: 'it returns false'. Refute it at one input. -/
def fnExactFitsTypeWrong : ChangeSpec := { name := "fnExactFitsType", fn := fun _ => fun
  | [d1, d2] => { results := [.lit (.bool false)], args := [d1, d2] }
  | _ => none }
def FnExactFitsTypeWrongFalsely : Prop := fnExactFitsTypeRow.holds Try.pinned (OpenSpec.ofChange fnExactFitsTypeWrong)

/-- 'laws.FnMeet': WHATEVER THE INPUT: true; the input reads as it did. -/
def fnMeetSpec : ChangeSpec := { name := "fnMeet", fn := fun _ => fun
  | [d] => { results := [.lit (.bool true)], args := [d] }
  | _ => none }
def fnMeetRow : OpenClaim := { program := "ytkchiflcpecbeaa", sum := "7a2e27a3a4ea8b69f9814ddc828eb7d11f1149bbf13b77524bac3bd693af3a35", func := "loop.example/g00495/laws.FnMeet", spec := "fnMeet", apart := false }
def FnMeetSaid : Prop := fnMeetRow.holds Try.pinned (OpenSpec.ofChange fnMeetSpec)

/-- ITS FALSE NEIGHBOUR: 'it returns false'. Refute it at one input. -/
def fnMeetWrong : ChangeSpec := { name := "fnMeet", fn := fun _ => fun
  | [d] => { results := [.lit (.bool false)], args := [d] }
  | _ => none }
def FnMeetWrongFalsely : Prop := fnMeetRow.holds Try.pinned (OpenSpec.ofChange fnMeetWrong)

/-- 'laws.FnExactBinType': WHATEVER THE INPUT: true; the input reads as it did. -/
def fnExactBinTypeSpec : ChangeSpec := { name := "fnExactBinType", fn := fun _ => fun
  | [d1, d2, d3] => { results := [.lit (.bool true)], args := [d1, d2, d3] }
  | _ => none }
def fnExactBinTypeRow : OpenClaim := { program := "ytkchiflcpecbeaa", sum := "7a2e27a3a4ea8b69f9814ddc828eb7d11f1149bbf13b77524bac3bd693af3a35", func := "loop.example/g00495/laws.FnExactBinType", spec := "fnExactBinType", apart := false }
def FnExactBinTypeSaid : Prop := fnExactBinTypeRow.holds Try.pinned (OpenSpec.ofChange fnExactBinTypeSpec)

/-- ITS FALSE NEIGHBOUR: 'it returns false'. Refute it at one input. -/
def fnExactBinTypeWrong : ChangeSpec := { name := "fnExactBinType", fn := fun _ => fun
  | [d1, d2, d3] => { results := [.lit (.bool false)], args := [d1, d2, d3] }
  | _ => none }
def FnExactBinTypeWrongFalsely : Prop := fnExactBinTypeRow.holds Try.pinned (OpenSpec.ofChange fnExactBinTypeWrong)

/-- 'laws.FnFlipBack': WHATEVER THE INPUT: true; the input reads as it did. -/
def fnFlipBackSpec : ChangeSpec := { name := "fnFlipBack", fn := fun _ => fun
  | [d] => { results := [.lit (.bool true)], args := [d] }
  | _ => none }
def fnFlipBackRow : OpenClaim := { program := "ytkchiflcpecbeaa", sum := "7a2e27a3a4ea8b69f9814ddc828eb7d11f1149bbf13b77524bac3bd693af3a35", func := "loop.example/g00495/laws.FnFlipBack", spec := "fnFlipBack", apart := false }
def FnFlipBackSaid : Prop := fnFlipBackRow.holds Try.pinned (OpenSpec.ofChange fnFlipBackSpec)

/-- ITS FALSE NEIGHBOUR: 'it returns false'. Refute it at one input. -/
def fnFlipBackWrong : ChangeSpec := { name := "fnFlipBack", fn := fun _ => fun
  | [d] => { results := [.lit (.bool false)], args := [d] }
  | _ => none }
def FnFlipBackWrongFalsely : Prop := fnFlipBackRow.holds Try.pinned (OpenSpec.ofChange fnFlipBackWrong)

/- THE SECOND FORM. 'bulk': how many values and letters a reading holds, each counted each time it is reached (what is shared counts as often as it is met; a slice's spare places count too). A statement '..UptoSaid' is the law's where the arguments, and the package variables that the reading takes, are together of bulk at most 1048576: NARROWER than '..Said'. Prove '..Said' where nothing that the law and all that it calls make is longer than what came in: it says more and counts as full. Else prove '..UptoSaid'. A law counts once. -/
mutual
def uptoBulk {H : Type} : DataW H → Nat
  | .lit (.string bytes) => bytes.length + 1
  | .lit _ => 1
  | .nil => 1
  | .ptr d => uptoBulk d + 1
  | .slice elems spare => uptoBulkAll elems + uptoBulkAll spare + 1
  | .agg parts => uptoBulkAll parts + 1
  | .iface _ d => uptoBulk d + 1
  | .map entries => uptoBulkEntries entries + 1
  | .held _ => 1
def uptoBulkAll {H : Type} : List (DataW H) → Nat
  | [] => 0
  | d :: r => uptoBulk d + uptoBulkAll r
def uptoBulkEntries {H : Type} : List (Lit × DataW H) → Nat
  | [] => 0
  | x :: r => uptoBulkEntry x + uptoBulkEntries r
def uptoBulkEntry {H : Type} : Lit × DataW H → Nat
  | (.string bytes, d) => bytes.length + uptoBulk d + 1
  | (_, d) => uptoBulk d + 1
 end
def uptoSmall : (H : Type) → List (DataW H) → Bool := fun _ ds => decide (uptoBulkAll ds ≤ 1048576)
def OpenSpec.upto (s : _root_.Go.ChangeSpec) : _root_.Go.OpenSpec := { _root_.Go.OpenSpec.ofChange s with cond := some uptoSmall }

/-- 'laws.FnExactTypeText', WHERE WHAT IT READS IS OF BULK AT MOST 1048576: true; the input reads as it did. -/
def fnExactTypeTextUptoRow : OpenClaim := { program := "ytkchiflcpecbeaa", sum := "7a2e27a3a4ea8b69f9814ddc828eb7d11f1149bbf13b77524bac3bd693af3a35", func := "loop.example/g00495/laws.FnExactTypeText", spec := "fnExactTypeText", apart := false, narrowed := true }
def FnExactTypeTextUptoSaid : Prop := fnExactTypeTextUptoRow.holds Try.pinned (OpenSpec.upto fnExactTypeTextSpec)

/-- 'laws.FnExactFlip', WHERE WHAT IT READS IS OF BULK AT MOST 1048576: true; the input reads as it did. -/
def fnExactFlipUptoRow : OpenClaim := { program := "ytkchiflcpecbeaa", sum := "7a2e27a3a4ea8b69f9814ddc828eb7d11f1149bbf13b77524bac3bd693af3a35", func := "loop.example/g00495/laws.FnExactFlip", spec := "fnExactFlip", apart := false, narrowed := true }
def FnExactFlipUptoSaid : Prop := fnExactFlipUptoRow.holds Try.pinned (OpenSpec.upto fnExactFlipSpec)

/-- 'laws.FnExactMeet', WHERE WHAT IT READS IS OF BULK AT MOST 1048576: true; the input reads as it did. -/
def fnExactMeetUptoRow : OpenClaim := { program := "ytkchiflcpecbeaa", sum := "7a2e27a3a4ea8b69f9814ddc828eb7d11f1149bbf13b77524bac3bd693af3a35", func := "loop.example/g00495/laws.FnExactMeet", spec := "fnExactMeet", apart := false, narrowed := true }
def FnExactMeetUptoSaid : Prop := fnExactMeetUptoRow.holds Try.pinned (OpenSpec.upto fnExactMeetSpec)

/-- 'laws.FnExactUnType', WHERE WHAT IT READS IS OF BULK AT MOST 1048576: true; the input reads as it did. -/
def fnExactUnTypeUptoRow : OpenClaim := { program := "ytkchiflcpecbeaa", sum := "7a2e27a3a4ea8b69f9814ddc828eb7d11f1149bbf13b77524bac3bd693af3a35", func := "loop.example/g00495/laws.FnExactUnType", spec := "fnExactUnType", apart := false, narrowed := true }
def FnExactUnTypeUptoSaid : Prop := fnExactUnTypeUptoRow.holds Try.pinned (OpenSpec.upto fnExactUnTypeSpec)

/-- 'laws.FnExactFitsType', WHERE WHAT IT READS IS OF BULK AT MOST 1048576: true; the input reads as it did. -/
def fnExactFitsTypeUptoRow : OpenClaim := { program := "ytkchiflcpecbeaa", sum := "7a2e27a3a4ea8b69f9814ddc828eb7d11f1149bbf13b77524bac3bd693af3a35", func := "loop.example/g00495/laws.FnExactFitsType", spec := "fnExactFitsType", apart := false, narrowed := true }
def FnExactFitsTypeUptoSaid : Prop := fnExactFitsTypeUptoRow.holds Try.pinned (OpenSpec.upto fnExactFitsTypeSpec)

/-- 'laws.FnMeet', WHERE WHAT IT READS IS OF BULK AT MOST 1048576: true; the input reads as it did. -/
def fnMeetUptoRow : OpenClaim := { program := "ytkchiflcpecbeaa", sum := "7a2e27a3a4ea8b69f9814ddc828eb7d11f1149bbf13b77524bac3bd693af3a35", func := "loop.example/g00495/laws.FnMeet", spec := "fnMeet", apart := false, narrowed := true }
def FnMeetUptoSaid : Prop := fnMeetUptoRow.holds Try.pinned (OpenSpec.upto fnMeetSpec)

/-- 'laws.FnExactBinType', WHERE WHAT IT READS IS OF BULK AT MOST 1048576: true; the input reads as it did. -/
def fnExactBinTypeUptoRow : OpenClaim := { program := "ytkchiflcpecbeaa", sum := "7a2e27a3a4ea8b69f9814ddc828eb7d11f1149bbf13b77524bac3bd693af3a35", func := "loop.example/g00495/laws.FnExactBinType", spec := "fnExactBinType", apart := false, narrowed := true }
def FnExactBinTypeUptoSaid : Prop := fnExactBinTypeUptoRow.holds Try.pinned (OpenSpec.upto fnExactBinTypeSpec)

/-- 'laws.FnFlipBack', WHERE WHAT IT READS IS OF BULK AT MOST 1048576: true; the input reads as it did. -/
def fnFlipBackUptoRow : OpenClaim := { program := "ytkchiflcpecbeaa", sum := "7a2e27a3a4ea8b69f9814ddc828eb7d11f1149bbf13b77524bac3bd693af3a35", func := "loop.example/g00495/laws.FnFlipBack", spec := "fnFlipBack", apart := false, narrowed := true }
def FnFlipBackUptoSaid : Prop := fnFlipBackUptoRow.holds Try.pinned (OpenSpec.upto fnFlipBackSpec)

end Rows
end Go.Proofs.Ytkchiflcpecbeaa
