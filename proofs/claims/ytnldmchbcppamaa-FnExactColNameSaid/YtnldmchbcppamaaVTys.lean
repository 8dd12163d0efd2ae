/-
  The sizes, zeros and fields of the types of this translation, as closed facts. Printed by a program of our own; no condition.
-/
import Derived.Test.YtnldmchbcppamaaVExt
import Derived.Test.YtnldmchbcppamaaChecked
import Derived.KernelRfl
namespace Go.Proofs.Ytnldmchbcppamaa
open Go
@[simp] theorem ty2 : tyOf Try.prog 2 = some ⟨1, 8, [.int .i64 0], .int .i64⟩ := by kernel_rfl
@[simp] theorem ty3 : tyOf Try.prog 3 = some ⟨1, 8, [.int .i64 0], .int .i64⟩ := by kernel_rfl
@[simp] theorem ty4 : tyOf Try.prog 4 = some ⟨1, 1, [.bool false], .bool⟩ := by kernel_rfl
@[simp] theorem ty5 : tyOf Try.prog 5 = some ⟨1, 1, [.int .u8 0], .int .u8⟩ := by kernel_rfl
@[simp] theorem ty9 : tyOf Try.prog 9 = some ⟨1, 16, [.str []], .string⟩ := by kernel_rfl
@[simp] theorem ty12 : tyOf Try.prog 12 = some ⟨1, 8, [.int .u64 0], .int .u64⟩ := by kernel_rfl
@[simp] theorem ty21 : tyOf Try.prog 21 = some ⟨1, 4, [.int .i32 0], .int .i32⟩ := by kernel_rfl
@[simp] theorem ty32 : tyOf Try.prog 32 = some ⟨1, 4, [.int .u32 0], .int .u32⟩ := by kernel_rfl
@[simp] theorem ty36 : tyOf Try.prog 36 = some ⟨1, 8, [.nilp], .other⟩ := by kernel_rfl
@[simp] theorem ok3 : callOk Try.prog 3 = true := by kernel_rfl
@[simp] theorem ok4 : callOk Try.prog 4 = true := by kernel_rfl
@[simp] theorem ok5 : callOk Try.prog 5 = true := by kernel_rfl
@[simp] theorem ok6 : callOk Try.prog 6 = true := by kernel_rfl
@[simp] theorem ok7 : callOk Try.prog 7 = true := by kernel_rfl
@[simp] theorem ok8 : callOk Try.prog 8 = true := by kernel_rfl
end Go.Proofs.Ytnldmchbcppamaa
