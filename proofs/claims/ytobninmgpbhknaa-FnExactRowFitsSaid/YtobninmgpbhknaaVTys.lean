/-
  The sizes, zeros and fields of the types of this translation, as closed facts. Printed by a program of our own; no condition.
-/
import Derived.Test.YtobninmgpbhknaaVExt
import Derived.Test.YtobninmgpbhknaaChecked
import Derived.KernelRfl
namespace Go.Proofs.Ytobninmgpbhknaa
open Go
@[simp] theorem ty2 : tyOf Try.prog 2 = some ⟨1, 8, [.int .i64 0], .int .i64⟩ := by kernel_rfl
@[simp] theorem ty3 : tyOf Try.prog 3 = some ⟨1, 8, [.int .i64 0], .int .i64⟩ := by kernel_rfl
@[simp] theorem ty4 : tyOf Try.prog 4 = some ⟨1, 1, [.bool false], .bool⟩ := by kernel_rfl
@[simp] theorem ty5 : tyOf Try.prog 5 = some ⟨1, 1, [.int .u8 0], .int .u8⟩ := by kernel_rfl
@[simp] theorem ty9 : tyOf Try.prog 9 = some ⟨1, 16, [.str []], .string⟩ := by kernel_rfl
@[simp] theorem ty12 : tyOf Try.prog 12 = some ⟨1, 8, [.int .u64 0], .int .u64⟩ := by kernel_rfl
@[simp] theorem ty21 : tyOf Try.prog 21 = some ⟨1, 4, [.int .i32 0], .int .i32⟩ := by kernel_rfl
@[simp] theorem ty22 : tyOf Try.prog 22 = some ⟨1, 24, [.nilsl], .slice 5⟩ := by kernel_rfl
@[simp] theorem ty24 : tyOf Try.prog 24 = some ⟨1, 24, [.nilsl], .slice 32⟩ := by kernel_rfl
@[simp] theorem ty26 : tyOf Try.prog 26 = some ⟨1, 24, [.nilsl], .struct [⟨0, 1, false, 0⟩] true⟩ := by kernel_rfl
@[simp] theorem ty29 : tyOf Try.prog 29 = some ⟨1, 24, [.nilsl], .slice 3⟩ := by kernel_rfl
@[simp] theorem ty32 : tyOf Try.prog 32 = some ⟨3, 40, [.str [], .str [], .int .i64 0], .struct [⟨0, 1, false, 2⟩, ⟨1, 1, false, 2⟩, ⟨2, 1, false, 1⟩] true⟩ := by kernel_rfl
@[simp] theorem ty35 : tyOf Try.prog 35 = some ⟨1, 24, [.nilsl], .slice 26⟩ := by kernel_rfl
@[simp] theorem ty39 : tyOf Try.prog 39 = some ⟨3, 24, [.int .i64 0, .int .i64 0, .int .i64 0], .struct [⟨0, 1, false, 1⟩, ⟨1, 1, false, 1⟩, ⟨2, 1, false, 1⟩] true⟩ := by kernel_rfl
@[simp] theorem ty42 : tyOf Try.prog 42 = some ⟨1, 24, [.nilsl], .slice 99⟩ := by kernel_rfl
@[simp] theorem ty45 : tyOf Try.prog 45 = some ⟨1, 24, [.nilsl], .slice 101⟩ := by kernel_rfl
@[simp] theorem ty51 : tyOf Try.prog 51 = some ⟨1, 24, [.nilsl], .slice 124⟩ := by kernel_rfl
@[simp] theorem ty53 : tyOf Try.prog 53 = some ⟨2, 40, [.str [], .nilsl], .struct [⟨0, 1, false, 2⟩, ⟨1, 1, false, 0⟩] true⟩ := by kernel_rfl
@[simp] theorem ty56 : tyOf Try.prog 56 = some ⟨1, 24, [.nilsl], .slice 106⟩ := by kernel_rfl
@[simp] theorem ty58 : tyOf Try.prog 58 = some ⟨2, 40, [.str [], .nilsl], .struct [⟨0, 1, false, 2⟩, ⟨1, 1, false, 0⟩] true⟩ := by kernel_rfl
@[simp] theorem ty64 : tyOf Try.prog 64 = some ⟨1, 24, [.nilsl], .slice 53⟩ := by kernel_rfl
@[simp] theorem ty66 : tyOf Try.prog 66 = some ⟨1, 24, [.nilsl], .struct [⟨0, 1, false, 0⟩] true⟩ := by kernel_rfl
@[simp] theorem ty69 : tyOf Try.prog 69 = some ⟨1, 24, [.nilsl], .slice 58⟩ := by kernel_rfl
@[simp] theorem ty71 : tyOf Try.prog 71 = some ⟨1, 24, [.nilsl], .struct [⟨0, 1, false, 0⟩] true⟩ := by kernel_rfl
@[simp] theorem ty75 : tyOf Try.prog 75 = some ⟨1, 24, [.nilsl], .slice 129⟩ := by kernel_rfl
@[simp] theorem ty77 : tyOf Try.prog 77 = some ⟨1, 24, [.nilsl], .struct [⟨0, 1, false, 0⟩] true⟩ := by kernel_rfl
@[simp] theorem ty84 : tyOf Try.prog 84 = some ⟨1, 24, [.nilsl], .slice 77⟩ := by kernel_rfl
@[simp] theorem ty90 : tyOf Try.prog 90 = some ⟨1, 8, [.nilp], .other⟩ := by kernel_rfl
@[simp] theorem ty96 : tyOf Try.prog 96 = some ⟨1, 24, [.nilsl], .slice 9⟩ := by kernel_rfl
@[simp] theorem ty99 : tyOf Try.prog 99 = some ⟨3, 32, [.int .i64 0, .int .i64 0, .str []], .struct [⟨0, 1, false, 1⟩, ⟨1, 1, false, 1⟩, ⟨2, 1, false, 2⟩] true⟩ := by kernel_rfl
@[simp] theorem ty101 : tyOf Try.prog 101 = some ⟨3, 32, [.int .i64 0, .int .i64 0, .str []], .struct [⟨0, 1, false, 1⟩, ⟨1, 1, false, 1⟩, ⟨2, 1, false, 2⟩] true⟩ := by kernel_rfl
@[simp] theorem ty106 : tyOf Try.prog 106 = some ⟨2, 24, [.str [], .int .i64 0], .struct [⟨0, 1, false, 2⟩, ⟨1, 1, false, 1⟩] true⟩ := by kernel_rfl
@[simp] theorem ty120 : tyOf Try.prog 120 = some ⟨3, 40, [.nilsl, .int .i64 0, .int .i64 0], .struct [⟨0, 1, false, 0⟩, ⟨1, 1, false, 1⟩, ⟨2, 1, false, 1⟩] true⟩ := by kernel_rfl
@[simp] theorem ty124 : tyOf Try.prog 124 = some ⟨2, 24, [.str [], .int .i64 0], .struct [⟨0, 1, false, 2⟩, ⟨1, 1, false, 1⟩] true⟩ := by kernel_rfl
@[simp] theorem ty129 : tyOf Try.prog 129 = some ⟨3, 40, [.str [], .str [], .int .i64 0], .struct [⟨0, 1, false, 2⟩, ⟨1, 1, false, 2⟩, ⟨2, 1, false, 1⟩] true⟩ := by kernel_rfl
@[simp] theorem ty134 : tyOf Try.prog 134 = some ⟨1, 8, [.int .u64 0], .int .u64⟩ := by kernel_rfl
@[simp] theorem ty142 : tyOf Try.prog 142 = some ⟨1, 4, [.int .u32 0], .int .u32⟩ := by kernel_rfl
@[simp] theorem ty146 : tyOf Try.prog 146 = some ⟨1, 8, [.nilp], .other⟩ := by kernel_rfl
@[simp] theorem ok3 : callOk Try.prog 3 = true := by kernel_rfl
@[simp] theorem ok4 : callOk Try.prog 4 = true := by kernel_rfl
@[simp] theorem ok5 : callOk Try.prog 5 = true := by kernel_rfl
@[simp] theorem ok6 : callOk Try.prog 6 = true := by kernel_rfl
@[simp] theorem ok7 : callOk Try.prog 7 = true := by kernel_rfl
@[simp] theorem ok8 : callOk Try.prog 8 = true := by kernel_rfl
@[simp] theorem ok9 : callOk Try.prog 9 = true := by kernel_rfl
@[simp] theorem ok10 : callOk Try.prog 10 = true := by kernel_rfl
@[simp] theorem ok11 : callOk Try.prog 11 = true := by kernel_rfl
@[simp] theorem ok12 : callOk Try.prog 12 = true := by kernel_rfl
@[simp] theorem ok13 : callOk Try.prog 13 = true := by kernel_rfl
@[simp] theorem ok14 : callOk Try.prog 14 = true := by kernel_rfl
@[simp] theorem ok15 : callOk Try.prog 15 = true := by kernel_rfl
@[simp] theorem ok16 : callOk Try.prog 16 = true := by kernel_rfl
@[simp] theorem ok17 : callOk Try.prog 17 = true := by kernel_rfl
@[simp] theorem ok18 : callOk Try.prog 18 = true := by kernel_rfl
@[simp] theorem ok19 : callOk Try.prog 19 = true := by kernel_rfl
@[simp] theorem ok20 : callOk Try.prog 20 = true := by kernel_rfl
@[simp] theorem ok21 : callOk Try.prog 21 = true := by kernel_rfl
@[simp] theorem ok22 : callOk Try.prog 22 = true := by kernel_rfl
@[simp] theorem ok23 : callOk Try.prog 23 = true := by kernel_rfl
@[simp] theorem ok24 : callOk Try.prog 24 = true := by kernel_rfl
@[simp] theorem ok25 : callOk Try.prog 25 = true := by kernel_rfl
@[simp] theorem ok26 : callOk Try.prog 26 = true := by kernel_rfl
@[simp] theorem ok27 : callOk Try.prog 27 = true := by kernel_rfl
@[simp] theorem ok28 : callOk Try.prog 28 = true := by kernel_rfl
@[simp] theorem ok29 : callOk Try.prog 29 = true := by kernel_rfl
@[simp] theorem ok30 : callOk Try.prog 30 = true := by kernel_rfl
@[simp] theorem ok31 : callOk Try.prog 31 = true := by kernel_rfl
@[simp] theorem ok32 : callOk Try.prog 32 = true := by kernel_rfl
@[simp] theorem ok33 : callOk Try.prog 33 = true := by kernel_rfl
@[simp] theorem ok34 : callOk Try.prog 34 = true := by kernel_rfl
@[simp] theorem ok35 : callOk Try.prog 35 = true := by kernel_rfl
@[simp] theorem ok36 : callOk Try.prog 36 = true := by kernel_rfl
@[simp] theorem ok37 : callOk Try.prog 37 = true := by kernel_rfl
@[simp] theorem ok38 : callOk Try.prog 38 = true := by kernel_rfl
@[simp] theorem ok39 : callOk Try.prog 39 = true := by kernel_rfl
@[simp] theorem ok40 : callOk Try.prog 40 = true := by kernel_rfl
@[simp] theorem ok41 : callOk Try.prog 41 = true := by kernel_rfl
@[simp] theorem ok42 : callOk Try.prog 42 = true := by kernel_rfl
@[simp] theorem ok43 : callOk Try.prog 43 = true := by kernel_rfl
@[simp] theorem ok44 : callOk Try.prog 44 = true := by kernel_rfl
@[simp] theorem ok45 : callOk Try.prog 45 = true := by kernel_rfl
@[simp] theorem ok46 : callOk Try.prog 46 = true := by kernel_rfl
@[simp] theorem ok47 : callOk Try.prog 47 = true := by kernel_rfl
@[simp] theorem ok48 : callOk Try.prog 48 = true := by kernel_rfl
@[simp] theorem ok49 : callOk Try.prog 49 = true := by kernel_rfl
@[simp] theorem ok50 : callOk Try.prog 50 = true := by kernel_rfl
@[simp] theorem ok51 : callOk Try.prog 51 = true := by kernel_rfl
@[simp] theorem ok52 : callOk Try.prog 52 = true := by kernel_rfl
@[simp] theorem ok53 : callOk Try.prog 53 = true := by kernel_rfl
@[simp] theorem ok54 : callOk Try.prog 54 = true := by kernel_rfl
@[simp] theorem ok55 : callOk Try.prog 55 = true := by kernel_rfl
@[simp] theorem ok56 : callOk Try.prog 56 = true := by kernel_rfl
@[simp] theorem ok57 : callOk Try.prog 57 = true := by kernel_rfl
@[simp] theorem ok58 : callOk Try.prog 58 = true := by kernel_rfl
@[simp] theorem ok59 : callOk Try.prog 59 = true := by kernel_rfl
@[simp] theorem ok60 : callOk Try.prog 60 = true := by kernel_rfl
@[simp] theorem ok61 : callOk Try.prog 61 = true := by kernel_rfl
@[simp] theorem ok62 : callOk Try.prog 62 = true := by kernel_rfl
@[simp] theorem ok63 : callOk Try.prog 63 = true := by kernel_rfl
@[simp] theorem ok64 : callOk Try.prog 64 = true := by kernel_rfl
@[simp] theorem ok65 : callOk Try.prog 65 = true := by kernel_rfl
@[simp] theorem ok66 : callOk Try.prog 66 = true := by kernel_rfl
@[simp] theorem ok67 : callOk Try.prog 67 = true := by kernel_rfl
@[simp] theorem ok68 : callOk Try.prog 68 = true := by kernel_rfl
@[simp] theorem ok69 : callOk Try.prog 69 = true := by kernel_rfl
@[simp] theorem ok70 : callOk Try.prog 70 = true := by kernel_rfl
@[simp] theorem ok71 : callOk Try.prog 71 = true := by kernel_rfl
@[simp] theorem ok72 : callOk Try.prog 72 = true := by kernel_rfl
@[simp] theorem ok73 : callOk Try.prog 73 = true := by kernel_rfl
@[simp] theorem ok74 : callOk Try.prog 74 = true := by kernel_rfl
@[simp] theorem ok75 : callOk Try.prog 75 = true := by kernel_rfl
@[simp] theorem ok76 : callOk Try.prog 76 = true := by kernel_rfl
@[simp] theorem ok77 : callOk Try.prog 77 = true := by kernel_rfl
@[simp] theorem ok78 : callOk Try.prog 78 = true := by kernel_rfl
@[simp] theorem ok79 : callOk Try.prog 79 = true := by kernel_rfl
@[simp] theorem ok80 : callOk Try.prog 80 = true := by kernel_rfl
@[simp] theorem ok81 : callOk Try.prog 81 = true := by kernel_rfl
@[simp] theorem ok82 : callOk Try.prog 82 = true := by kernel_rfl
@[simp] theorem ok83 : callOk Try.prog 83 = true := by kernel_rfl
@[simp] theorem ok84 : callOk Try.prog 84 = true := by kernel_rfl
end Go.Proofs.Ytobninmgpbhknaa
