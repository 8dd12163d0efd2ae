/-
  The sizes, zeros and fields of the types of this translation, as closed facts. Printed by a program of our own; no condition.
-/
import Derived.Test.YtoededaekidbcaaDoorVCode
import Derived.Test.YtoededaekidbcaaDoorChecked
import Derived.KernelRfl
namespace Go.Proofs.YtoededaekidbcaaDoor
open Go
@[simp] theorem ty2 : tyOf Tryd.prog 2 = some ⟨1, 8, [.int .i64 0], .int .i64⟩ := by kernel_rfl
@[simp] theorem ty3 : tyOf Tryd.prog 3 = some ⟨1, 8, [.int .i64 0], .int .i64⟩ := by kernel_rfl
@[simp] theorem ty4 : tyOf Tryd.prog 4 = some ⟨1, 1, [.bool false], .bool⟩ := by kernel_rfl
@[simp] theorem ty5 : tyOf Tryd.prog 5 = some ⟨1, 1, [.int .u8 0], .int .u8⟩ := by kernel_rfl
@[simp] theorem ty9 : tyOf Tryd.prog 9 = some ⟨1, 16, [.str []], .string⟩ := by kernel_rfl
@[simp] theorem ty12 : tyOf Tryd.prog 12 = some ⟨1, 8, [.int .u64 0], .int .u64⟩ := by kernel_rfl
@[simp] theorem ty21 : tyOf Tryd.prog 21 = some ⟨1, 4, [.int .i32 0], .int .i32⟩ := by kernel_rfl
@[simp] theorem ty23 : tyOf Tryd.prog 23 = some ⟨2, 16, [.int .i64 0, .int .i64 0], .struct [⟨0, 1, false, 1⟩, ⟨1, 1, false, 1⟩] true⟩ := by kernel_rfl
@[simp] theorem ty25 : tyOf Tryd.prog 25 = some ⟨2, 16, [.int .i64 0, .int .i64 0], .struct [⟨0, 1, false, 1⟩, ⟨1, 1, false, 1⟩] true⟩ := by kernel_rfl
@[simp] theorem ty28 : tyOf Tryd.prog 28 = some ⟨1, 24, [.nilsl], .slice 5⟩ := by kernel_rfl
@[simp] theorem ty33 : tyOf Tryd.prog 33 = some ⟨3, 32, [.int .i64 0, .int .i64 0, .str []], .struct [⟨0, 1, false, 1⟩, ⟨1, 1, false, 1⟩, ⟨2, 1, false, 2⟩] true⟩ := by kernel_rfl
@[simp] theorem ty34 : tyOf Tryd.prog 34 = some ⟨1, 24, [.nilsl], .slice 37⟩ := by kernel_rfl
@[simp] theorem ty35 : tyOf Tryd.prog 35 = some ⟨1, 24, [.nilsl], .slice 79⟩ := by kernel_rfl
@[simp] theorem ty37 : tyOf Tryd.prog 37 = some ⟨10, 136, [.int .i64 0, .int .i64 0, .bool false, .int .i64 0, .int .i64 0, .str [], .str [], .str [], .nilsl, .nilsl], .struct [⟨0, 1, false, 1⟩, ⟨1, 1, false, 1⟩, ⟨2, 1, false, 3⟩, ⟨3, 3, true, 0⟩, ⟨6, 1, false, 2⟩, ⟨7, 1, false, 2⟩, ⟨8, 1, false, 0⟩, ⟨9, 1, false, 0⟩] true⟩ := by kernel_rfl
@[simp] theorem ty39 : tyOf Tryd.prog 39 = some ⟨13, 176, [.bool false, .str [], .int .i64 0, .int .i64 0, .bool false, .int .i64 0, .int .i64 0, .str [], .str [], .str [], .nilsl, .nilsl, .str []], .struct [⟨0, 1, false, 3⟩, ⟨1, 1, false, 2⟩, ⟨2, 10, true, 0⟩, ⟨12, 1, false, 2⟩] true⟩ := by kernel_rfl
@[simp] theorem ty42 : tyOf Tryd.prog 42 = some ⟨3, 32, [.int .i64 0, .int .i64 0, .str []], .struct [⟨0, 1, false, 1⟩, ⟨1, 1, false, 1⟩, ⟨2, 1, false, 2⟩] true⟩ := by kernel_rfl
@[simp] theorem ty43 : tyOf Tryd.prog 43 = some ⟨1, 24, [.nilsl], .slice 46⟩ := by kernel_rfl
@[simp] theorem ty44 : tyOf Tryd.prog 44 = some ⟨1, 24, [.nilsl], .slice 84⟩ := by kernel_rfl
@[simp] theorem ty46 : tyOf Tryd.prog 46 = some ⟨10, 136, [.int .i64 0, .int .i64 0, .bool false, .int .i64 0, .int .i64 0, .str [], .str [], .str [], .nilsl, .nilsl], .struct [⟨0, 1, false, 1⟩, ⟨1, 1, false, 1⟩, ⟨2, 1, false, 3⟩, ⟨3, 3, true, 0⟩, ⟨6, 1, false, 2⟩, ⟨7, 1, false, 2⟩, ⟨8, 1, false, 0⟩, ⟨9, 1, false, 0⟩] true⟩ := by kernel_rfl
@[simp] theorem ty48 : tyOf Tryd.prog 48 = some ⟨13, 176, [.bool false, .str [], .int .i64 0, .int .i64 0, .bool false, .int .i64 0, .int .i64 0, .str [], .str [], .str [], .nilsl, .nilsl, .str []], .struct [⟨0, 1, false, 3⟩, ⟨1, 1, false, 2⟩, ⟨2, 10, true, 0⟩, ⟨12, 1, false, 2⟩] true⟩ := by kernel_rfl
@[simp] theorem ty53 : tyOf Tryd.prog 53 = some ⟨1, 8, [.nilp], .other⟩ := by kernel_rfl
@[simp] theorem ty61 : tyOf Tryd.prog 61 = some ⟨3, 40, [.nilsl, .int .i64 0, .int .i64 0], .struct [⟨0, 1, false, 0⟩, ⟨1, 1, false, 1⟩, ⟨2, 1, false, 1⟩] true⟩ := by kernel_rfl
@[simp] theorem ty63 : tyOf Tryd.prog 63 = some ⟨1, 24, [.nilsl], .slice 3⟩ := by kernel_rfl
@[simp] theorem ty73 : tyOf Tryd.prog 73 = some ⟨1, 8, [.int .u64 0], .int .u64⟩ := by kernel_rfl
@[simp] theorem ty75 : tyOf Tryd.prog 75 = some ⟨1, 24, [.nilsl], .slice 39⟩ := by kernel_rfl
@[simp] theorem ty76 : tyOf Tryd.prog 76 = some ⟨1, 24, [.nilsl], .slice 105⟩ := by kernel_rfl
@[simp] theorem ty77 : tyOf Tryd.prog 77 = some ⟨1, 24, [.nilsl], .slice 108⟩ := by kernel_rfl
@[simp] theorem ty79 : tyOf Tryd.prog 79 = some ⟨6, 112, [.bool false, .nilsl, .nilsl, .nilsl, .nilsl, .int .i64 0], .struct [⟨0, 1, false, 3⟩, ⟨1, 1, false, 0⟩, ⟨2, 1, false, 0⟩, ⟨3, 1, false, 0⟩, ⟨4, 1, false, 0⟩, ⟨5, 1, false, 1⟩] true⟩ := by kernel_rfl
@[simp] theorem ty80 : tyOf Tryd.prog 80 = some ⟨1, 24, [.nilsl], .slice 48⟩ := by kernel_rfl
@[simp] theorem ty81 : tyOf Tryd.prog 81 = some ⟨1, 24, [.nilsl], .slice 110⟩ := by kernel_rfl
@[simp] theorem ty82 : tyOf Tryd.prog 82 = some ⟨1, 24, [.nilsl], .slice 113⟩ := by kernel_rfl
@[simp] theorem ty84 : tyOf Tryd.prog 84 = some ⟨6, 112, [.bool false, .nilsl, .nilsl, .nilsl, .nilsl, .int .i64 0], .struct [⟨0, 1, false, 3⟩, ⟨1, 1, false, 0⟩, ⟨2, 1, false, 0⟩, ⟨3, 1, false, 0⟩, ⟨4, 1, false, 0⟩, ⟨5, 1, false, 1⟩] true⟩ := by kernel_rfl
@[simp] theorem ty98 : tyOf Tryd.prog 98 = some ⟨1, 8, [.int .u64 0], .int .u64⟩ := by kernel_rfl
@[simp] theorem ty105 : tyOf Tryd.prog 105 = some ⟨3, 56, [.str [], .str [], .nilsl], .struct [⟨0, 1, false, 2⟩, ⟨1, 1, false, 2⟩, ⟨2, 1, false, 0⟩] true⟩ := by kernel_rfl
@[simp] theorem ty108 : tyOf Tryd.prog 108 = some ⟨11, 144, [.int .i64 0, .int .i64 0, .bool false, .int .i64 0, .int .i64 0, .str [], .str [], .str [], .nilsl, .nilsl, .bool false], .struct [⟨0, 10, true, 0⟩, ⟨10, 1, false, 3⟩] true⟩ := by kernel_rfl
@[simp] theorem ty110 : tyOf Tryd.prog 110 = some ⟨3, 56, [.str [], .str [], .nilsl], .struct [⟨0, 1, false, 2⟩, ⟨1, 1, false, 2⟩, ⟨2, 1, false, 0⟩] true⟩ := by kernel_rfl
@[simp] theorem ty113 : tyOf Tryd.prog 113 = some ⟨11, 144, [.int .i64 0, .int .i64 0, .bool false, .int .i64 0, .int .i64 0, .str [], .str [], .str [], .nilsl, .nilsl, .bool false], .struct [⟨0, 10, true, 0⟩, ⟨10, 1, false, 3⟩] true⟩ := by kernel_rfl
@[simp] theorem ty120 : tyOf Tryd.prog 120 = some ⟨1, 4, [.int .u32 0], .int .u32⟩ := by kernel_rfl
@[simp] theorem ty137 : tyOf Tryd.prog 137 = some ⟨1, 8, [.nilp], .other⟩ := by kernel_rfl
theorem ok3 : CallOk Tryd.prog 3 := ⟨by kernel_rfl⟩
theorem ok4 : CallOk Tryd.prog 4 := ⟨by kernel_rfl⟩
theorem ok5 : CallOk Tryd.prog 5 := ⟨by kernel_rfl⟩
theorem ok6 : CallOk Tryd.prog 6 := ⟨by kernel_rfl⟩
theorem ok7 : CallOk Tryd.prog 7 := ⟨by kernel_rfl⟩
theorem ok8 : CallOk Tryd.prog 8 := ⟨by kernel_rfl⟩
theorem ok9 : CallOk Tryd.prog 9 := ⟨by kernel_rfl⟩
theorem ok10 : CallOk Tryd.prog 10 := ⟨by kernel_rfl⟩
theorem ok11 : CallOk Tryd.prog 11 := ⟨by kernel_rfl⟩
theorem ok12 : CallOk Tryd.prog 12 := ⟨by kernel_rfl⟩
theorem ok13 : CallOk Tryd.prog 13 := ⟨by kernel_rfl⟩
theorem ok14 : CallOk Tryd.prog 14 := ⟨by kernel_rfl⟩
theorem ok15 : CallOk Tryd.prog 15 := ⟨by kernel_rfl⟩
theorem ok16 : CallOk Tryd.prog 16 := ⟨by kernel_rfl⟩
theorem ok17 : CallOk Tryd.prog 17 := ⟨by kernel_rfl⟩
theorem ok18 : CallOk Tryd.prog 18 := ⟨by kernel_rfl⟩
theorem ok19 : CallOk Tryd.prog 19 := ⟨by kernel_rfl⟩
theorem ok20 : CallOk Tryd.prog 20 := ⟨by kernel_rfl⟩
theorem ok21 : CallOk Tryd.prog 21 := ⟨by kernel_rfl⟩
theorem ok22 : CallOk Tryd.prog 22 := ⟨by kernel_rfl⟩
theorem ok23 : CallOk Tryd.prog 23 := ⟨by kernel_rfl⟩
theorem ok24 : CallOk Tryd.prog 24 := ⟨by kernel_rfl⟩
theorem ok25 : CallOk Tryd.prog 25 := ⟨by kernel_rfl⟩
theorem ok26 : CallOk Tryd.prog 26 := ⟨by kernel_rfl⟩
theorem ok27 : CallOk Tryd.prog 27 := ⟨by kernel_rfl⟩
theorem ok28 : CallOk Tryd.prog 28 := ⟨by kernel_rfl⟩
theorem ok29 : CallOk Tryd.prog 29 := ⟨by kernel_rfl⟩
theorem ok30 : CallOk Tryd.prog 30 := ⟨by kernel_rfl⟩
theorem ok31 : CallOk Tryd.prog 31 := ⟨by kernel_rfl⟩
theorem ok32 : CallOk Tryd.prog 32 := ⟨by kernel_rfl⟩
theorem ok33 : CallOk Tryd.prog 33 := ⟨by kernel_rfl⟩
theorem ok34 : CallOk Tryd.prog 34 := ⟨by kernel_rfl⟩
theorem ok35 : CallOk Tryd.prog 35 := ⟨by kernel_rfl⟩
theorem ok36 : CallOk Tryd.prog 36 := ⟨by kernel_rfl⟩
theorem ok37 : CallOk Tryd.prog 37 := ⟨by kernel_rfl⟩
theorem ok38 : CallOk Tryd.prog 38 := ⟨by kernel_rfl⟩
theorem ok39 : CallOk Tryd.prog 39 := ⟨by kernel_rfl⟩
theorem ok40 : CallOk Tryd.prog 40 := ⟨by kernel_rfl⟩
theorem ok41 : CallOk Tryd.prog 41 := ⟨by kernel_rfl⟩
theorem ok42 : CallOk Tryd.prog 42 := ⟨by kernel_rfl⟩
theorem ok43 : CallOk Tryd.prog 43 := ⟨by kernel_rfl⟩
theorem ok44 : CallOk Tryd.prog 44 := ⟨by kernel_rfl⟩
theorem ok45 : CallOk Tryd.prog 45 := ⟨by kernel_rfl⟩
theorem ok46 : CallOk Tryd.prog 46 := ⟨by kernel_rfl⟩
theorem ok47 : CallOk Tryd.prog 47 := ⟨by kernel_rfl⟩
theorem ok48 : CallOk Tryd.prog 48 := ⟨by kernel_rfl⟩
theorem ok49 : CallOk Tryd.prog 49 := ⟨by kernel_rfl⟩
theorem ok50 : CallOk Tryd.prog 50 := ⟨by kernel_rfl⟩
theorem ok51 : CallOk Tryd.prog 51 := ⟨by kernel_rfl⟩
theorem ok52 : CallOk Tryd.prog 52 := ⟨by kernel_rfl⟩
theorem ok53 : CallOk Tryd.prog 53 := ⟨by kernel_rfl⟩
theorem ok54 : CallOk Tryd.prog 54 := ⟨by kernel_rfl⟩
theorem ok55 : CallOk Tryd.prog 55 := ⟨by kernel_rfl⟩
theorem ok56 : CallOk Tryd.prog 56 := ⟨by kernel_rfl⟩
theorem ok57 : CallOk Tryd.prog 57 := ⟨by kernel_rfl⟩
theorem ok58 : CallOk Tryd.prog 58 := ⟨by kernel_rfl⟩
theorem ok59 : CallOk Tryd.prog 59 := ⟨by kernel_rfl⟩
theorem ok60 : CallOk Tryd.prog 60 := ⟨by kernel_rfl⟩
theorem ok61 : CallOk Tryd.prog 61 := ⟨by kernel_rfl⟩
theorem ok62 : CallOk Tryd.prog 62 := ⟨by kernel_rfl⟩
theorem ok63 : CallOk Tryd.prog 63 := ⟨by kernel_rfl⟩
theorem ok64 : CallOk Tryd.prog 64 := ⟨by kernel_rfl⟩
theorem ok65 : CallOk Tryd.prog 65 := ⟨by kernel_rfl⟩
theorem ok66 : CallOk Tryd.prog 66 := ⟨by kernel_rfl⟩
theorem ok67 : CallOk Tryd.prog 67 := ⟨by kernel_rfl⟩
end Go.Proofs.YtoededaekidbcaaDoor
