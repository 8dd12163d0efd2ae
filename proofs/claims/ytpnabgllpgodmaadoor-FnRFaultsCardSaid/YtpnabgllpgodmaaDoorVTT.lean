/-
  The types of this translation in a tree. Printed by a program of our own; no condition.
-/
import Derived.Test.YtpnabgllpgodmaaDoorVTys
import Derived.Test.YtpnabgllpgodmaaDoorVL
import Derived.KernelRfl
namespace Go.Proofs.YtpnabgllpgodmaaDoor
open Go
def tT : BT := (.node 29 ⟨1, 24, [.nilsl], .slice 5⟩ (.node 9 ⟨1, 16, [.str []], .string⟩ (.node 4 ⟨1, 1, [.bool false], .bool⟩ (.node 3 ⟨1, 8, [.int .i64 0], .int .i64⟩ (.node 2 ⟨1, 8, [.int .i64 0], .int .i64⟩ .leaf .leaf) .leaf) (.node 5 ⟨1, 1, [.int .u8 0], .int .u8⟩ .leaf .leaf)) (.node 23 ⟨2, 24, [.int .i64 0, .str []], .struct [⟨0, 1, false, 1⟩, ⟨1, 1, false, 2⟩] true⟩ (.node 21 ⟨1, 4, [.int .i32 0], .int .i32⟩ (.node 12 ⟨1, 8, [.int .u64 0], .int .u64⟩ .leaf .leaf) .leaf) (.node 26 ⟨2, 24, [.int .i64 0, .str []], .struct [⟨0, 1, false, 1⟩, ⟨1, 1, false, 2⟩] true⟩ .leaf .leaf))) (.node 55 ⟨1, 8, [.nilp], .other⟩ (.node 44 ⟨3, 40, [.nilsl, .int .i64 0, .int .i64 0], .struct [⟨0, 1, false, 0⟩, ⟨1, 1, false, 1⟩, ⟨2, 1, false, 1⟩] true⟩ (.node 36 ⟨1, 8, [.nilp], .other⟩ (.node 32 ⟨1, 24, [.nilsl], .slice 9⟩ .leaf .leaf) .leaf) (.node 49 ⟨1, 8, [.int .u64 0], .int .u64⟩ .leaf .leaf)) (.node 76 ⟨2, 2, [.int .u8 0, .int .u8 0], .struct [⟨0, 1, false, 1⟩, ⟨1, 1, false, 1⟩] true⟩ (.node 68 ⟨1, 8, [.nilp], .other⟩ (.node 57 ⟨2, 32, [.nilp, .nilsl], .struct [⟨0, 1, false, 0⟩, ⟨1, 1, false, 0⟩] true⟩ .leaf .leaf) .leaf) (.node 78 ⟨1, 4, [.int .u32 0], .int .u32⟩ .leaf .leaf))))
theorem tT_ok : tT.ok Tryd.prog := ⟨ty29, ⟨ty9, ⟨ty4, ⟨ty3, ⟨ty2, trivial, trivial⟩, trivial⟩, ⟨ty5, trivial, trivial⟩⟩, ⟨ty23, ⟨ty21, ⟨ty12, trivial, trivial⟩, trivial⟩, ⟨ty26, trivial, trivial⟩⟩⟩, ⟨ty55, ⟨ty44, ⟨ty36, ⟨ty32, trivial, trivial⟩, trivial⟩, ⟨ty49, trivial, trivial⟩⟩, ⟨ty76, ⟨ty68, ⟨ty57, trivial, trivial⟩, trivial⟩, ⟨ty78, trivial, trivial⟩⟩⟩⟩
end Go.Proofs.YtpnabgllpgodmaaDoor
