/-
  The sizes, zeros and fields of the types of this translation, as closed facts. Printed by a program of our own; no condition.
-/
import Derived.Test.YtpnabgllpgodmaaDoorVCode
import Derived.Test.YtpnabgllpgodmaaDoorChecked
import Derived.KernelRfl
namespace Go.Proofs.YtpnabgllpgodmaaDoor
open Go
@[simp] theorem ty2 : tyOf Tryd.prog 2 = some ⟨1, 8, [.int .i64 0], .int .i64⟩ := by kernel_rfl
@[simp] theorem ty3 : tyOf Tryd.prog 3 = some ⟨1, 8, [.int .i64 0], .int .i64⟩ := by kernel_rfl
@[simp] theorem ty4 : tyOf Tryd.prog 4 = some ⟨1, 1, [.bool false], .bool⟩ := by kernel_rfl
@[simp] theorem ty5 : tyOf Tryd.prog 5 = some ⟨1, 1, [.int .u8 0], .int .u8⟩ := by kernel_rfl
@[simp] theorem ty9 : tyOf Tryd.prog 9 = some ⟨1, 16, [.str []], .string⟩ := by kernel_rfl
@[simp] theorem ty12 : tyOf Tryd.prog 12 = some ⟨1, 8, [.int .u64 0], .int .u64⟩ := by kernel_rfl
@[simp] theorem ty21 : tyOf Tryd.prog 21 = some ⟨1, 4, [.int .i32 0], .int .i32⟩ := by kernel_rfl
@[simp] theorem ty23 : tyOf Tryd.prog 23 = some ⟨2, 24, [.int .i64 0, .str []], .struct [⟨0, 1, false, 1⟩, ⟨1, 1, false, 2⟩] true⟩ := by kernel_rfl
@[simp] theorem ty26 : tyOf Tryd.prog 26 = some ⟨2, 24, [.int .i64 0, .str []], .struct [⟨0, 1, false, 1⟩, ⟨1, 1, false, 2⟩] true⟩ := by kernel_rfl
@[simp] theorem ty29 : tyOf Tryd.prog 29 = some ⟨1, 24, [.nilsl], .slice 5⟩ := by kernel_rfl
@[simp] theorem ty32 : tyOf Tryd.prog 32 = some ⟨1, 24, [.nilsl], .slice 9⟩ := by kernel_rfl
@[simp] theorem ty36 : tyOf Tryd.prog 36 = some ⟨1, 8, [.nilp], .other⟩ := by kernel_rfl
@[simp] theorem ty44 : tyOf Tryd.prog 44 = some ⟨3, 40, [.nilsl, .int .i64 0, .int .i64 0], .struct [⟨0, 1, false, 0⟩, ⟨1, 1, false, 1⟩, ⟨2, 1, false, 1⟩] true⟩ := by kernel_rfl
@[simp] theorem ty49 : tyOf Tryd.prog 49 = some ⟨1, 8, [.int .u64 0], .int .u64⟩ := by kernel_rfl
@[simp] theorem ty55 : tyOf Tryd.prog 55 = some ⟨1, 8, [.nilp], .other⟩ := by kernel_rfl
@[simp] theorem ty57 : tyOf Tryd.prog 57 = some ⟨2, 32, [.nilp, .nilsl], .struct [⟨0, 1, false, 0⟩, ⟨1, 1, false, 0⟩] true⟩ := by kernel_rfl
@[simp] theorem ty68 : tyOf Tryd.prog 68 = some ⟨1, 8, [.nilp], .other⟩ := by kernel_rfl
@[simp] theorem ty76 : tyOf Tryd.prog 76 = some ⟨2, 2, [.int .u8 0, .int .u8 0], .struct [⟨0, 1, false, 1⟩, ⟨1, 1, false, 1⟩] true⟩ := by kernel_rfl
@[simp] theorem ty78 : tyOf Tryd.prog 78 = some ⟨1, 4, [.int .u32 0], .int .u32⟩ := by kernel_rfl
theorem ok3 : CallOk Tryd.prog 3 := ⟨by kernel_rfl⟩
theorem ok4 : CallOk Tryd.prog 4 := ⟨by kernel_rfl⟩
theorem ok5 : CallOk Tryd.prog 5 := ⟨by kernel_rfl⟩
theorem ok6 : CallOk Tryd.prog 6 := ⟨by kernel_rfl⟩
theorem ok7 : CallOk Tryd.prog 7 := ⟨by kernel_rfl⟩
theorem ok8 : CallOk Tryd.prog 8 := ⟨by kernel_rfl⟩
theorem ok9 : CallOk Tryd.prog 9 := ⟨by kernel_rfl⟩
theorem ok10 : CallOk Tryd.prog 10 := ⟨by kernel_rfl⟩
theorem ok11 : CallOk Tryd.prog 11 := ⟨by kernel_rfl⟩
theorem ok12 : CallOk Tryd.prog 12 := ⟨by kernel_rfl⟩
theorem ok13 : CallOk Tryd.prog 13 := ⟨by kernel_rfl⟩
theorem ok14 : CallOk Tryd.prog 14 := ⟨by kernel_rfl⟩
theorem ok15 : CallOk Tryd.prog 15 := ⟨by kernel_rfl⟩
theorem ok16 : CallOk Tryd.prog 16 := ⟨by kernel_rfl⟩
theorem ok17 : CallOk Tryd.prog 17 := ⟨by kernel_rfl⟩
theorem ok18 : CallOk Tryd.prog 18 := ⟨by kernel_rfl⟩
theorem ok19 : CallOk Tryd.prog 19 := ⟨by kernel_rfl⟩
theorem ok20 : CallOk Tryd.prog 20 := ⟨by kernel_rfl⟩
theorem ok21 : CallOk Tryd.prog 21 := ⟨by kernel_rfl⟩
theorem ok22 : CallOk Tryd.prog 22 := ⟨by kernel_rfl⟩
theorem ok23 : CallOk Tryd.prog 23 := ⟨by kernel_rfl⟩
theorem ok24 : CallOk Tryd.prog 24 := ⟨by kernel_rfl⟩
theorem ok25 : CallOk Tryd.prog 25 := ⟨by kernel_rfl⟩
theorem ok26 : CallOk Tryd.prog 26 := ⟨by kernel_rfl⟩
theorem ok27 : CallOk Tryd.prog 27 := ⟨by kernel_rfl⟩
theorem ok28 : CallOk Tryd.prog 28 := ⟨by kernel_rfl⟩
theorem ok29 : CallOk Tryd.prog 29 := ⟨by kernel_rfl⟩
theorem ok30 : CallOk Tryd.prog 30 := ⟨by kernel_rfl⟩
theorem ok31 : CallOk Tryd.prog 31 := ⟨by kernel_rfl⟩
theorem ok32 : CallOk Tryd.prog 32 := ⟨by kernel_rfl⟩
theorem ok33 : CallOk Tryd.prog 33 := ⟨by kernel_rfl⟩
theorem ok34 : CallOk Tryd.prog 34 := ⟨by kernel_rfl⟩
theorem ok35 : CallOk Tryd.prog 35 := ⟨by kernel_rfl⟩
theorem ok36 : CallOk Tryd.prog 36 := ⟨by kernel_rfl⟩
theorem ok37 : CallOk Tryd.prog 37 := ⟨by kernel_rfl⟩
theorem ok38 : CallOk Tryd.prog 38 := ⟨by kernel_rfl⟩
theorem ok39 : CallOk Tryd.prog 39 := ⟨by kernel_rfl⟩
theorem ok40 : CallOk Tryd.prog 40 := ⟨by kernel_rfl⟩
theorem ok41 : CallOk Tryd.prog 41 := ⟨by kernel_rfl⟩
theorem ok42 : CallOk Tryd.prog 42 := ⟨by kernel_rfl⟩
theorem ok43 : CallOk Tryd.prog 43 := ⟨by kernel_rfl⟩
theorem ok44 : CallOk Tryd.prog 44 := ⟨by kernel_rfl⟩
theorem ok45 : CallOk Tryd.prog 45 := ⟨by kernel_rfl⟩
theorem ok46 : CallOk Tryd.prog 46 := ⟨by kernel_rfl⟩
theorem ok47 : CallOk Tryd.prog 47 := ⟨by kernel_rfl⟩
theorem ok49 : CallOk Tryd.prog 49 := ⟨by kernel_rfl⟩
theorem ok50 : CallOk Tryd.prog 50 := ⟨by kernel_rfl⟩
theorem ok51 : CallOk Tryd.prog 51 := ⟨by kernel_rfl⟩
theorem ok52 : CallOk Tryd.prog 52 := ⟨by kernel_rfl⟩
theorem ok53 : CallOk Tryd.prog 53 := ⟨by kernel_rfl⟩
theorem ok56 : CallOk Tryd.prog 56 := ⟨by kernel_rfl⟩
theorem ok58 : CallOk Tryd.prog 58 := ⟨by kernel_rfl⟩
theorem ok59 : CallOk Tryd.prog 59 := ⟨by kernel_rfl⟩
theorem ok61 : CallOk Tryd.prog 61 := ⟨by kernel_rfl⟩
end Go.Proofs.YtpnabgllpgodmaaDoor
