/-
  The sizes, zeros and fields of the types of this translation, as closed facts. Printed by a program of our own; no condition.
-/
import Derived.Test.YtkkifdgnebbghaaVCode
import Derived.Test.YtkkifdgnebbghaaChecked
import Derived.KernelRfl
namespace Go.Proofs.Ytkkifdgnebbghaa
open Go
@[simp] theorem ty2 : tyOf Try.prog 2 = some ⟨1, 8, [.int .i64 0], .int .i64⟩ := by kernel_rfl
@[simp] theorem ty3 : tyOf Try.prog 3 = some ⟨1, 8, [.int .i64 0], .int .i64⟩ := by kernel_rfl
@[simp] theorem ty4 : tyOf Try.prog 4 = some ⟨1, 1, [.bool false], .bool⟩ := by kernel_rfl
@[simp] theorem ty5 : tyOf Try.prog 5 = some ⟨1, 1, [.int .u8 0], .int .u8⟩ := by kernel_rfl
@[simp] theorem ty9 : tyOf Try.prog 9 = some ⟨1, 16, [.str []], .string⟩ := by kernel_rfl
@[simp] theorem ty12 : tyOf Try.prog 12 = some ⟨1, 8, [.int .u64 0], .int .u64⟩ := by kernel_rfl
@[simp] theorem ty21 : tyOf Try.prog 21 = some ⟨1, 4, [.int .i32 0], .int .i32⟩ := by kernel_rfl
@[simp] theorem ty22 : tyOf Try.prog 22 = some ⟨1, 24, [.nilsl], .slice 29⟩ := by kernel_rfl
@[simp] theorem ty25 : tyOf Try.prog 25 = some ⟨1, 24, [.nilsl], .slice 31⟩ := by kernel_rfl
@[simp] theorem ty29 : tyOf Try.prog 29 = some ⟨1, 24, [.nilsl], .slice 36⟩ := by kernel_rfl
@[simp] theorem ty31 : tyOf Try.prog 31 = some ⟨1, 24, [.nilsl], .slice 39⟩ := by kernel_rfl
@[simp] theorem ty36 : tyOf Try.prog 36 = some ⟨3, 32, [.int .i64 0, .int .i64 0, .str []], .struct [⟨0, 1, false, 1⟩, ⟨1, 1, false, 1⟩, ⟨2, 1, false, 2⟩] true⟩ := by kernel_rfl
@[simp] theorem ty39 : tyOf Try.prog 39 = some ⟨3, 32, [.int .i64 0, .int .i64 0, .str []], .struct [⟨0, 1, false, 1⟩, ⟨1, 1, false, 1⟩, ⟨2, 1, false, 2⟩] true⟩ := by kernel_rfl
@[simp] theorem ty52 : tyOf Try.prog 52 = some ⟨1, 8, [.int .u64 0], .int .u64⟩ := by kernel_rfl
@[simp] theorem ty53 : tyOf Try.prog 53 = some ⟨1, 24, [.nilsl], .slice 3⟩ := by kernel_rfl
@[simp] theorem ty63 : tyOf Try.prog 63 = some ⟨1, 4, [.int .u32 0], .int .u32⟩ := by kernel_rfl
@[simp] theorem ty67 : tyOf Try.prog 67 = some ⟨1, 8, [.nilp], .other⟩ := by kernel_rfl
theorem ok3 : CallOk Try.prog 3 := ⟨by kernel_rfl⟩
theorem ok4 : CallOk Try.prog 4 := ⟨by kernel_rfl⟩
theorem ok5 : CallOk Try.prog 5 := ⟨by kernel_rfl⟩
theorem ok6 : CallOk Try.prog 6 := ⟨by kernel_rfl⟩
theorem ok7 : CallOk Try.prog 7 := ⟨by kernel_rfl⟩
theorem ok8 : CallOk Try.prog 8 := ⟨by kernel_rfl⟩
theorem ok9 : CallOk Try.prog 9 := ⟨by kernel_rfl⟩
theorem ok10 : CallOk Try.prog 10 := ⟨by kernel_rfl⟩
theorem ok11 : CallOk Try.prog 11 := ⟨by kernel_rfl⟩
theorem ok12 : CallOk Try.prog 12 := ⟨by kernel_rfl⟩
theorem ok13 : CallOk Try.prog 13 := ⟨by kernel_rfl⟩
theorem ok14 : CallOk Try.prog 14 := ⟨by kernel_rfl⟩
theorem ok15 : CallOk Try.prog 15 := ⟨by kernel_rfl⟩
theorem ok16 : CallOk Try.prog 16 := ⟨by kernel_rfl⟩
theorem ok17 : CallOk Try.prog 17 := ⟨by kernel_rfl⟩
theorem ok18 : CallOk Try.prog 18 := ⟨by kernel_rfl⟩
theorem ok19 : CallOk Try.prog 19 := ⟨by kernel_rfl⟩
theorem ok20 : CallOk Try.prog 20 := ⟨by kernel_rfl⟩
theorem ok21 : CallOk Try.prog 21 := ⟨by kernel_rfl⟩
theorem ok22 : CallOk Try.prog 22 := ⟨by kernel_rfl⟩
theorem ok23 : CallOk Try.prog 23 := ⟨by kernel_rfl⟩
theorem ok24 : CallOk Try.prog 24 := ⟨by kernel_rfl⟩
theorem ok25 : CallOk Try.prog 25 := ⟨by kernel_rfl⟩
theorem ok26 : CallOk Try.prog 26 := ⟨by kernel_rfl⟩
theorem ok27 : CallOk Try.prog 27 := ⟨by kernel_rfl⟩
theorem ok28 : CallOk Try.prog 28 := ⟨by kernel_rfl⟩
theorem ok29 : CallOk Try.prog 29 := ⟨by kernel_rfl⟩
theorem ok30 : CallOk Try.prog 30 := ⟨by kernel_rfl⟩
theorem ok31 : CallOk Try.prog 31 := ⟨by kernel_rfl⟩
theorem ok32 : CallOk Try.prog 32 := ⟨by kernel_rfl⟩
theorem ok33 : CallOk Try.prog 33 := ⟨by kernel_rfl⟩
theorem ok34 : CallOk Try.prog 34 := ⟨by kernel_rfl⟩
theorem ok35 : CallOk Try.prog 35 := ⟨by kernel_rfl⟩
theorem ok36 : CallOk Try.prog 36 := ⟨by kernel_rfl⟩
theorem ok37 : CallOk Try.prog 37 := ⟨by kernel_rfl⟩
theorem ok38 : CallOk Try.prog 38 := ⟨by kernel_rfl⟩
theorem ok39 : CallOk Try.prog 39 := ⟨by kernel_rfl⟩
theorem ok40 : CallOk Try.prog 40 := ⟨by kernel_rfl⟩
end Go.Proofs.Ytkkifdgnebbghaa
