/-
  The sizes, zeros and fields of the types of this translation, as closed facts. Printed by a program of our own; no condition.
-/
import Derived.Test.YtkchiflcpecbeaaVExt
import Derived.Test.YtkchiflcpecbeaaChecked
import Derived.KernelRfl
namespace Go.Proofs.Ytkchiflcpecbeaa
open Go
@[simp] theorem ty2 : tyOf Try.prog 2 = some ⟨1, 8, [.int .i64 0], .int .i64⟩ := by kernel_rfl
@[simp] theorem ty3 : tyOf Try.prog 3 = some ⟨1, 8, [.int .i64 0], .int .i64⟩ := by kernel_rfl
@[simp] theorem ty4 : tyOf Try.prog 4 = some ⟨1, 1, [.bool false], .bool⟩ := by kernel_rfl
@[simp] theorem ty5 : tyOf Try.prog 5 = some ⟨1, 1, [.int .u8 0], .int .u8⟩ := by kernel_rfl
@[simp] theorem ty9 : tyOf Try.prog 9 = some ⟨1, 16, [.str []], .string⟩ := by kernel_rfl
@[simp] theorem ty12 : tyOf Try.prog 12 = some ⟨1, 8, [.int .u64 0], .int .u64⟩ := by kernel_rfl
@[simp] theorem ty21 : tyOf Try.prog 21 = some ⟨1, 4, [.int .i32 0], .int .i32⟩ := by kernel_rfl
@[simp] theorem ty30 : tyOf Try.prog 30 = some ⟨3, 32, [.int .i64 0, .int .i64 0, .str []], .struct [⟨0, 1, false, 1⟩, ⟨1, 1, false, 1⟩, ⟨2, 1, false, 2⟩] true⟩ := by kernel_rfl
@[simp] theorem ty33 : tyOf Try.prog 33 = some ⟨3, 32, [.int .i64 0, .int .i64 0, .str []], .struct [⟨0, 1, false, 1⟩, ⟨1, 1, false, 1⟩, ⟨2, 1, false, 2⟩] true⟩ := by kernel_rfl
@[simp] theorem ty36 : tyOf Try.prog 36 = some ⟨1, 24, [.nilsl], .slice 5⟩ := by kernel_rfl
@[simp] theorem ty45 : tyOf Try.prog 45 = some ⟨1, 24, [.nilsl], .slice 9⟩ := by kernel_rfl
@[simp] theorem ty46 : tyOf Try.prog 46 = some ⟨1, 8, [.int .u64 0], .int .u64⟩ := by kernel_rfl
@[simp] theorem ty49 : tyOf Try.prog 49 = some ⟨1, 8, [.nilp], .other⟩ := by kernel_rfl
@[simp] theorem ty55 : tyOf Try.prog 55 = some ⟨1, 24, [.nilsl], .slice 3⟩ := by kernel_rfl
@[simp] theorem ty57 : tyOf Try.prog 57 = some ⟨3, 40, [.nilsl, .int .i64 0, .int .i64 0], .struct [⟨0, 1, false, 0⟩, ⟨1, 1, false, 1⟩, ⟨2, 1, false, 1⟩] true⟩ := by kernel_rfl
@[simp] theorem ty65 : tyOf Try.prog 65 = some ⟨1, 4, [.int .u32 0], .int .u32⟩ := by kernel_rfl
@[simp] theorem ty69 : tyOf Try.prog 69 = some ⟨1, 8, [.nilp], .other⟩ := by kernel_rfl
@[simp] theorem ok3 : callOk Try.prog 3 = true := by kernel_rfl
@[simp] theorem ok4 : callOk Try.prog 4 = true := by kernel_rfl
@[simp] theorem ok5 : callOk Try.prog 5 = true := by kernel_rfl
@[simp] theorem ok6 : callOk Try.prog 6 = true := by kernel_rfl
@[simp] theorem ok7 : callOk Try.prog 7 = true := by kernel_rfl
@[simp] theorem ok8 : callOk Try.prog 8 = true := by kernel_rfl
@[simp] theorem ok9 : callOk Try.prog 9 = true := by kernel_rfl
@[simp] theorem ok10 : callOk Try.prog 10 = true := by kernel_rfl
@[simp] theorem ok11 : callOk Try.prog 11 = true := by kernel_rfl
@[simp] theorem ok12 : callOk Try.prog 12 = true := by kernel_rfl
@[simp] theorem ok13 : callOk Try.prog 13 = true := by kernel_rfl
@[simp] theorem ok14 : callOk Try.prog 14 = true := by kernel_rfl
@[simp] theorem ok15 : callOk Try.prog 15 = true := by kernel_rfl
@[simp] theorem ok16 : callOk Try.prog 16 = true := by kernel_rfl
@[simp] theorem ok17 : callOk Try.prog 17 = true := by kernel_rfl
@[simp] theorem ok18 : callOk Try.prog 18 = true := by kernel_rfl
@[simp] theorem ok19 : callOk Try.prog 19 = true := by kernel_rfl
@[simp] theorem ok20 : callOk Try.prog 20 = true := by kernel_rfl
@[simp] theorem ok21 : callOk Try.prog 21 = true := by kernel_rfl
@[simp] theorem ok22 : callOk Try.prog 22 = true := by kernel_rfl
@[simp] theorem ok23 : callOk Try.prog 23 = true := by kernel_rfl
@[simp] theorem ok24 : callOk Try.prog 24 = true := by kernel_rfl
@[simp] theorem ok25 : callOk Try.prog 25 = true := by kernel_rfl
@[simp] theorem ok26 : callOk Try.prog 26 = true := by kernel_rfl
@[simp] theorem ok27 : callOk Try.prog 27 = true := by kernel_rfl
@[simp] theorem ok28 : callOk Try.prog 28 = true := by kernel_rfl
@[simp] theorem ok29 : callOk Try.prog 29 = true := by kernel_rfl
@[simp] theorem ok30 : callOk Try.prog 30 = true := by kernel_rfl
@[simp] theorem ok31 : callOk Try.prog 31 = true := by kernel_rfl
@[simp] theorem ok32 : callOk Try.prog 32 = true := by kernel_rfl
@[simp] theorem ok33 : callOk Try.prog 33 = true := by kernel_rfl
@[simp] theorem ok34 : callOk Try.prog 34 = true := by kernel_rfl
@[simp] theorem ok35 : callOk Try.prog 35 = true := by kernel_rfl
@[simp] theorem ok36 : callOk Try.prog 36 = true := by kernel_rfl
@[simp] theorem ok37 : callOk Try.prog 37 = true := by kernel_rfl
@[simp] theorem ok38 : callOk Try.prog 38 = true := by kernel_rfl
@[simp] theorem ok39 : callOk Try.prog 39 = true := by kernel_rfl
@[simp] theorem ok40 : callOk Try.prog 40 = true := by kernel_rfl
@[simp] theorem ok41 : callOk Try.prog 41 = true := by kernel_rfl
@[simp] theorem ok42 : callOk Try.prog 42 = true := by kernel_rfl
@[simp] theorem ok43 : callOk Try.prog 43 = true := by kernel_rfl
@[simp] theorem ok44 : callOk Try.prog 44 = true := by kernel_rfl
@[simp] theorem ok45 : callOk Try.prog 45 = true := by kernel_rfl
end Go.Proofs.Ytkchiflcpecbeaa
