/-
  The sizes, zeros and fields of the types of this translation, as closed facts. Printed by a program of our own; no condition.
-/
import Derived.Test.YtoededaekidbcaaVCode
import Derived.Test.YtoededaekidbcaaChecked
import Derived.KernelRfl
namespace Go.Proofs.Ytoededaekidbcaa
open Go
@[simp] theorem ty2 : tyOf Try.prog 2 = some ⟨1, 8, [.int .i64 0], .int .i64⟩ := by kernel_rfl
@[simp] theorem ty3 : tyOf Try.prog 3 = some ⟨1, 8, [.int .i64 0], .int .i64⟩ := by kernel_rfl
@[simp] theorem ty4 : tyOf Try.prog 4 = some ⟨1, 1, [.bool false], .bool⟩ := by kernel_rfl
@[simp] theorem ty5 : tyOf Try.prog 5 = some ⟨1, 1, [.int .u8 0], .int .u8⟩ := by kernel_rfl
@[simp] theorem ty9 : tyOf Try.prog 9 = some ⟨1, 16, [.str []], .string⟩ := by kernel_rfl
@[simp] theorem ty12 : tyOf Try.prog 12 = some ⟨1, 8, [.int .u64 0], .int .u64⟩ := by kernel_rfl
@[simp] theorem ty21 : tyOf Try.prog 21 = some ⟨1, 4, [.int .i32 0], .int .i32⟩ := by kernel_rfl
@[simp] theorem ty22 : tyOf Try.prog 22 = some ⟨1, 24, [.nilsl], .slice 43⟩ := by kernel_rfl
@[simp] theorem ty24 : tyOf Try.prog 24 = some ⟨1, 24, [.nilsl], .slice 46⟩ := by kernel_rfl
@[simp] theorem ty26 : tyOf Try.prog 26 = some ⟨1, 24, [.nilsl], .slice 45⟩ := by kernel_rfl
@[simp] theorem ty35 : tyOf Try.prog 35 = some ⟨1, 24, [.nilsl], .slice 59⟩ := by kernel_rfl
@[simp] theorem ty38 : tyOf Try.prog 38 = some ⟨1, 24, [.nilsl], .slice 61⟩ := by kernel_rfl
@[simp] theorem ty43 : tyOf Try.prog 43 = some ⟨3, 32, [.int .i64 0, .str [], .int .i64 0], .struct [⟨0, 1, false, 1⟩, ⟨1, 1, false, 2⟩, ⟨2, 1, false, 1⟩] true⟩ := by kernel_rfl
@[simp] theorem ty45 : tyOf Try.prog 45 = some ⟨3, 32, [.int .i64 0, .str [], .int .i64 0], .struct [⟨0, 1, false, 1⟩, ⟨1, 1, false, 2⟩, ⟨2, 1, false, 1⟩] true⟩ := by kernel_rfl
@[simp] theorem ty46 : tyOf Try.prog 46 = some ⟨1, 24, [.nilsl], .slice 3⟩ := by kernel_rfl
@[simp] theorem ty59 : tyOf Try.prog 59 = some ⟨1, 24, [.nilsl], .slice 71⟩ := by kernel_rfl
@[simp] theorem ty61 : tyOf Try.prog 61 = some ⟨1, 24, [.nilsl], .slice 74⟩ := by kernel_rfl
@[simp] theorem ty66 : tyOf Try.prog 66 = some ⟨1, 8, [.int .u64 0], .int .u64⟩ := by kernel_rfl
@[simp] theorem ty68 : tyOf Try.prog 68 = some ⟨1, 24, [.nilsl], .slice 5⟩ := by kernel_rfl
@[simp] theorem ty71 : tyOf Try.prog 71 = some ⟨3, 32, [.int .i64 0, .int .i64 0, .str []], .struct [⟨0, 1, false, 1⟩, ⟨1, 1, false, 1⟩, ⟨2, 1, false, 2⟩] true⟩ := by kernel_rfl
@[simp] theorem ty74 : tyOf Try.prog 74 = some ⟨3, 32, [.int .i64 0, .int .i64 0, .str []], .struct [⟨0, 1, false, 1⟩, ⟨1, 1, false, 1⟩, ⟨2, 1, false, 2⟩] true⟩ := by kernel_rfl
@[simp] theorem ty80 : tyOf Try.prog 80 = some ⟨1, 8, [.int .i64 0], .int .i64⟩ := by kernel_rfl
@[simp] theorem ty88 : tyOf Try.prog 88 = some ⟨1, 4, [.int .u32 0], .int .u32⟩ := by kernel_rfl
@[simp] theorem ty90 : tyOf Try.prog 90 = some ⟨1, 8, [.int .u64 0], .int .u64⟩ := by kernel_rfl
@[simp] theorem ty94 : tyOf Try.prog 94 = some ⟨1, 8, [.int .u64 0], .int .u64⟩ := by kernel_rfl
@[simp] theorem ty98 : tyOf Try.prog 98 = some ⟨1, 8, [.nilp], .other⟩ := by kernel_rfl
@[simp] theorem ty104 : tyOf Try.prog 104 = some ⟨1, 8, [.nilp], .other⟩ := by kernel_rfl
@[simp] theorem ty118 : tyOf Try.prog 118 = some ⟨1, 8, [.nilp], .other⟩ := by kernel_rfl
theorem ok3 : CallOk Try.prog 3 := ⟨by kernel_rfl⟩
theorem ok4 : CallOk Try.prog 4 := ⟨by kernel_rfl⟩
theorem ok5 : CallOk Try.prog 5 := ⟨by kernel_rfl⟩
theorem ok6 : CallOk Try.prog 6 := ⟨by kernel_rfl⟩
theorem ok7 : CallOk Try.prog 7 := ⟨by kernel_rfl⟩
theorem ok8 : CallOk Try.prog 8 := ⟨by kernel_rfl⟩
theorem ok9 : CallOk Try.prog 9 := ⟨by kernel_rfl⟩
theorem ok10 : CallOk Try.prog 10 := ⟨by kernel_rfl⟩
theorem ok11 : CallOk Try.prog 11 := ⟨by kernel_rfl⟩
theorem ok12 : CallOk Try.prog 12 := ⟨by kernel_rfl⟩
theorem ok13 : CallOk Try.prog 13 := ⟨by kernel_rfl⟩
theorem ok14 : CallOk Try.prog 14 := ⟨by kernel_rfl⟩
theorem ok15 : CallOk Try.prog 15 := ⟨by kernel_rfl⟩
theorem ok16 : CallOk Try.prog 16 := ⟨by kernel_rfl⟩
theorem ok17 : CallOk Try.prog 17 := ⟨by kernel_rfl⟩
theorem ok18 : CallOk Try.prog 18 := ⟨by kernel_rfl⟩
theorem ok19 : CallOk Try.prog 19 := ⟨by kernel_rfl⟩
theorem ok20 : CallOk Try.prog 20 := ⟨by kernel_rfl⟩
theorem ok21 : CallOk Try.prog 21 := ⟨by kernel_rfl⟩
theorem ok22 : CallOk Try.prog 22 := ⟨by kernel_rfl⟩
theorem ok23 : CallOk Try.prog 23 := ⟨by kernel_rfl⟩
theorem ok24 : CallOk Try.prog 24 := ⟨by kernel_rfl⟩
theorem ok25 : CallOk Try.prog 25 := ⟨by kernel_rfl⟩
theorem ok26 : CallOk Try.prog 26 := ⟨by kernel_rfl⟩
theorem ok27 : CallOk Try.prog 27 := ⟨by kernel_rfl⟩
theorem ok28 : CallOk Try.prog 28 := ⟨by kernel_rfl⟩
theorem ok29 : CallOk Try.prog 29 := ⟨by kernel_rfl⟩
theorem ok30 : CallOk Try.prog 30 := ⟨by kernel_rfl⟩
theorem ok31 : CallOk Try.prog 31 := ⟨by kernel_rfl⟩
theorem ok32 : CallOk Try.prog 32 := ⟨by kernel_rfl⟩
theorem ok33 : CallOk Try.prog 33 := ⟨by kernel_rfl⟩
theorem ok34 : CallOk Try.prog 34 := ⟨by kernel_rfl⟩
theorem ok35 : CallOk Try.prog 35 := ⟨by kernel_rfl⟩
theorem ok36 : CallOk Try.prog 36 := ⟨by kernel_rfl⟩
theorem ok37 : CallOk Try.prog 37 := ⟨by kernel_rfl⟩
theorem ok38 : CallOk Try.prog 38 := ⟨by kernel_rfl⟩
theorem ok39 : CallOk Try.prog 39 := ⟨by kernel_rfl⟩
theorem ok40 : CallOk Try.prog 40 := ⟨by kernel_rfl⟩
theorem ok41 : CallOk Try.prog 41 := ⟨by kernel_rfl⟩
theorem ok42 : CallOk Try.prog 42 := ⟨by kernel_rfl⟩
theorem ok43 : CallOk Try.prog 43 := ⟨by kernel_rfl⟩
theorem ok44 : CallOk Try.prog 44 := ⟨by kernel_rfl⟩
theorem ok45 : CallOk Try.prog 45 := ⟨by kernel_rfl⟩
theorem ok46 : CallOk Try.prog 46 := ⟨by kernel_rfl⟩
theorem ok47 : CallOk Try.prog 47 := ⟨by kernel_rfl⟩
theorem ok48 : CallOk Try.prog 48 := ⟨by kernel_rfl⟩
theorem ok49 : CallOk Try.prog 49 := ⟨by kernel_rfl⟩
theorem ok50 : CallOk Try.prog 50 := ⟨by kernel_rfl⟩
theorem ok51 : CallOk Try.prog 51 := ⟨by kernel_rfl⟩
theorem ok52 : CallOk Try.prog 52 := ⟨by kernel_rfl⟩
theorem ok53 : CallOk Try.prog 53 := ⟨by kernel_rfl⟩
theorem ok54 : CallOk Try.prog 54 := ⟨by kernel_rfl⟩
theorem ok55 : CallOk Try.prog 55 := ⟨by kernel_rfl⟩
theorem ok56 : CallOk Try.prog 56 := ⟨by kernel_rfl⟩
theorem ok57 : CallOk Try.prog 57 := ⟨by kernel_rfl⟩
theorem ok58 : CallOk Try.prog 58 := ⟨by kernel_rfl⟩
theorem ok59 : CallOk Try.prog 59 := ⟨by kernel_rfl⟩
theorem ok60 : CallOk Try.prog 60 := ⟨by kernel_rfl⟩
theorem ok61 : CallOk Try.prog 61 := ⟨by kernel_rfl⟩
theorem ok62 : CallOk Try.prog 62 := ⟨by kernel_rfl⟩
theorem ok63 : CallOk Try.prog 63 := ⟨by kernel_rfl⟩
theorem ok64 : CallOk Try.prog 64 := ⟨by kernel_rfl⟩
theorem ok65 : CallOk Try.prog 65 := ⟨by kernel_rfl⟩
theorem ok66 : CallOk Try.prog 66 := ⟨by kernel_rfl⟩
theorem ok67 : CallOk Try.prog 67 := ⟨by kernel_rfl⟩
theorem ok68 : CallOk Try.prog 68 := ⟨by kernel_rfl⟩
theorem ok69 : CallOk Try.prog 69 := ⟨by kernel_rfl⟩
theorem ok70 : CallOk Try.prog 70 := ⟨by kernel_rfl⟩
theorem ok71 : CallOk Try.prog 71 := ⟨by kernel_rfl⟩
theorem ok72 : CallOk Try.prog 72 := ⟨by kernel_rfl⟩
theorem ok73 : CallOk Try.prog 73 := ⟨by kernel_rfl⟩
theorem ok74 : CallOk Try.prog 74 := ⟨by kernel_rfl⟩
theorem ok75 : CallOk Try.prog 75 := ⟨by kernel_rfl⟩
theorem ok76 : CallOk Try.prog 76 := ⟨by kernel_rfl⟩
theorem ok77 : CallOk Try.prog 77 := ⟨by kernel_rfl⟩
theorem ok78 : CallOk Try.prog 78 := ⟨by kernel_rfl⟩
theorem ok79 : CallOk Try.prog 79 := ⟨by kernel_rfl⟩
theorem ok80 : CallOk Try.prog 80 := ⟨by kernel_rfl⟩
theorem ok81 : CallOk Try.prog 81 := ⟨by kernel_rfl⟩
theorem ok82 : CallOk Try.prog 82 := ⟨by kernel_rfl⟩
theorem ok83 : CallOk Try.prog 83 := ⟨by kernel_rfl⟩
theorem ok84 : CallOk Try.prog 84 := ⟨by kernel_rfl⟩
theorem ok85 : CallOk Try.prog 85 := ⟨by kernel_rfl⟩
theorem ok86 : CallOk Try.prog 86 := ⟨by kernel_rfl⟩
end Go.Proofs.Ytoededaekidbcaa
