/-
  The types of this translation in a tree. Printed by a program of our own; no condition.
-/
import Derived.Test.YtkkifdgnebbghaaVTys
import Derived.Test.YtkkifdgnebbghaaVL
import Derived.KernelRfl
namespace Go.Proofs.Ytkkifdgnebbghaa
open Go
def tT : BT := (.node 25 ⟨1, 24, [.nilsl], .slice 31⟩ (.node 9 ⟨1, 16, [.str []], .string⟩ (.node 4 ⟨1, 1, [.bool false], .bool⟩ (.node 3 ⟨1, 8, [.int .i64 0], .int .i64⟩ (.node 2 ⟨1, 8, [.int .i64 0], .int .i64⟩ .leaf .leaf) .leaf) (.node 5 ⟨1, 1, [.int .u8 0], .int .u8⟩ .leaf .leaf)) (.node 21 ⟨1, 4, [.int .i32 0], .int .i32⟩ (.node 12 ⟨1, 8, [.int .u64 0], .int .u64⟩ .leaf .leaf) (.node 22 ⟨1, 24, [.nilsl], .slice 29⟩ .leaf .leaf))) (.node 52 ⟨1, 8, [.int .u64 0], .int .u64⟩ (.node 36 ⟨3, 32, [.int .i64 0, .int .i64 0, .str []], .struct [⟨0, 1, false, 1⟩, ⟨1, 1, false, 1⟩, ⟨2, 1, false, 2⟩] true⟩ (.node 31 ⟨1, 24, [.nilsl], .slice 39⟩ (.node 29 ⟨1, 24, [.nilsl], .slice 36⟩ .leaf .leaf) .leaf) (.node 39 ⟨3, 32, [.int .i64 0, .int .i64 0, .str []], .struct [⟨0, 1, false, 1⟩, ⟨1, 1, false, 1⟩, ⟨2, 1, false, 2⟩] true⟩ .leaf .leaf)) (.node 63 ⟨1, 4, [.int .u32 0], .int .u32⟩ (.node 53 ⟨1, 24, [.nilsl], .slice 3⟩ .leaf .leaf) (.node 67 ⟨1, 8, [.nilp], .other⟩ .leaf .leaf))))
theorem tT_ok : tT.ok Try.prog := ⟨ty25, ⟨ty9, ⟨ty4, ⟨ty3, ⟨ty2, trivial, trivial⟩, trivial⟩, ⟨ty5, trivial, trivial⟩⟩, ⟨ty21, ⟨ty12, trivial, trivial⟩, ⟨ty22, trivial, trivial⟩⟩⟩, ⟨ty52, ⟨ty36, ⟨ty31, ⟨ty29, trivial, trivial⟩, trivial⟩, ⟨ty39, trivial, trivial⟩⟩, ⟨ty63, ⟨ty53, trivial, trivial⟩, ⟨ty67, trivial, trivial⟩⟩⟩⟩
end Go.Proofs.Ytkkifdgnebbghaa
