/-
  The sizes, zeros and fields of the types of this translation, as closed facts. Printed by a program of our own; no condition.
-/
import Derived.Test.YtejdgmdebfkkeaaVExt
import Derived.Test.YtejdgmdebfkkeaaChecked
import Derived.KernelRfl
namespace Go.Proofs.Ytejdgmdebfkkeaa
open Go
@[simp] theorem ty2 : tyOf Try.prog 2 = some ⟨1, 8, [.int .i64 0], .int .i64⟩ := by kernel_rfl
@[simp] theorem ty3 : tyOf Try.prog 3 = some ⟨1, 8, [.int .i64 0], .int .i64⟩ := by kernel_rfl
@[simp] theorem ty4 : tyOf Try.prog 4 = some ⟨1, 1, [.bool false], .bool⟩ := by kernel_rfl
@[simp] theorem ty5 : tyOf Try.prog 5 = some ⟨1, 1, [.int .u8 0], .int .u8⟩ := by kernel_rfl
@[simp] theorem ty9 : tyOf Try.prog 9 = some ⟨1, 16, [.str []], .string⟩ := by kernel_rfl
@[simp] theorem ty12 : tyOf Try.prog 12 = some ⟨1, 8, [.int .u64 0], .int .u64⟩ := by kernel_rfl
@[simp] theorem ty21 : tyOf Try.prog 21 = some ⟨1, 4, [.int .i32 0], .int .i32⟩ := by kernel_rfl
@[simp] theorem ty22 : tyOf Try.prog 22 = some ⟨1, 24, [.nilsl], .slice 5⟩ := by kernel_rfl
@[simp] theorem ty25 : tyOf Try.prog 25 = some ⟨3, 32, [.int .i64 0, .int .i64 0, .str []], .struct [⟨0, 1, false, 1⟩, ⟨1, 1, false, 1⟩, ⟨2, 1, false, 2⟩] true⟩ := by kernel_rfl
@[simp] theorem ty26 : tyOf Try.prog 26 = some ⟨1, 24, [.nilsl], .slice 29⟩ := by kernel_rfl
@[simp] theorem ty27 : tyOf Try.prog 27 = some ⟨1, 24, [.nilsl], .slice 51⟩ := by kernel_rfl
@[simp] theorem ty29 : tyOf Try.prog 29 = some ⟨10, 120, [.int .i64 0, .int .i64 0, .bool false, .int .i64 0, .int .i64 0, .str [], .int .i64 0, .int .i64 0, .nilsl, .nilsl], .struct [⟨0, 1, false, 1⟩, ⟨1, 1, false, 1⟩, ⟨2, 1, false, 3⟩, ⟨3, 3, true, 0⟩, ⟨6, 1, false, 1⟩, ⟨7, 1, false, 1⟩, ⟨8, 1, false, 0⟩, ⟨9, 1, false, 0⟩] true⟩ := by kernel_rfl
@[simp] theorem ty32 : tyOf Try.prog 32 = some ⟨1, 24, [.nilsl], .slice 35⟩ := by kernel_rfl
@[simp] theorem ty35 : tyOf Try.prog 35 = some ⟨3, 24, [.int .i64 0, .int .i64 0, .int .i64 0], .struct [⟨0, 1, false, 1⟩, ⟨1, 1, false, 1⟩, ⟨2, 1, false, 1⟩] true⟩ := by kernel_rfl
@[simp] theorem ty46 : tyOf Try.prog 46 = some ⟨1, 24, [.nilsl], .slice 3⟩ := by kernel_rfl
@[simp] theorem ty47 : tyOf Try.prog 47 = some ⟨1, 24, [.nilsl], .slice 26⟩ := by kernel_rfl
@[simp] theorem ty48 : tyOf Try.prog 48 = some ⟨1, 24, [.nilsl], .slice 128⟩ := by kernel_rfl
@[simp] theorem ty49 : tyOf Try.prog 49 = some ⟨1, 24, [.nilsl], .slice 9⟩ := by kernel_rfl
@[simp] theorem ty51 : tyOf Try.prog 51 = some ⟨8, 160, [.nilsl, .nilsl, .nilsl, .nilsl, .nilsl, .nilsl, .bool false, .int .i64 0], .struct [⟨0, 1, false, 0⟩, ⟨1, 1, false, 0⟩, ⟨2, 1, false, 0⟩, ⟨3, 1, false, 0⟩, ⟨4, 1, false, 0⟩, ⟨5, 1, false, 0⟩, ⟨6, 1, false, 3⟩, ⟨7, 1, false, 1⟩] true⟩ := by kernel_rfl
@[simp] theorem ty57 : tyOf Try.prog 57 = some ⟨1, 24, [.nilsl], .slice 136⟩ := by kernel_rfl
@[simp] theorem ty60 : tyOf Try.prog 60 = some ⟨1, 24, [.nilsl], .slice 138⟩ := by kernel_rfl
@[simp] theorem ty63 : tyOf Try.prog 63 = some ⟨1, 24, [.nilsl], .slice 186⟩ := by kernel_rfl
@[simp] theorem ty65 : tyOf Try.prog 65 = some ⟨3, 56, [.str [], .str [], .nilsl], .struct [⟨0, 1, false, 2⟩, ⟨1, 1, false, 2⟩, ⟨2, 1, false, 0⟩] true⟩ := by kernel_rfl
@[simp] theorem ty68 : tyOf Try.prog 68 = some ⟨1, 24, [.nilsl], .slice 189⟩ := by kernel_rfl
@[simp] theorem ty70 : tyOf Try.prog 70 = some ⟨3, 56, [.str [], .str [], .nilsl], .struct [⟨0, 1, false, 2⟩, ⟨1, 1, false, 2⟩, ⟨2, 1, false, 0⟩] true⟩ := by kernel_rfl
@[simp] theorem ty74 : tyOf Try.prog 74 = some ⟨1, 24, [.nilsl], .slice 75⟩ := by kernel_rfl
@[simp] theorem ty75 : tyOf Try.prog 75 = some ⟨1, 24, [.nilsl], .slice 85⟩ := by kernel_rfl
@[simp] theorem ty76 : tyOf Try.prog 76 = some ⟨1, 24, [.nilsl], .slice 194⟩ := by kernel_rfl
@[simp] theorem ty78 : tyOf Try.prog 78 = some ⟨8, 160, [.nilsl, .nilsl, .nilsl, .nilsl, .nilsl, .nilsl, .bool false, .int .i64 0], .struct [⟨0, 1, false, 0⟩, ⟨1, 1, false, 0⟩, ⟨2, 1, false, 0⟩, ⟨3, 1, false, 0⟩, ⟨4, 1, false, 0⟩, ⟨5, 1, false, 0⟩, ⟨6, 1, false, 3⟩, ⟨7, 1, false, 1⟩] true⟩ := by kernel_rfl
@[simp] theorem ty82 : tyOf Try.prog 82 = some ⟨3, 32, [.int .i64 0, .int .i64 0, .str []], .struct [⟨0, 1, false, 1⟩, ⟨1, 1, false, 1⟩, ⟨2, 1, false, 2⟩] true⟩ := by kernel_rfl
@[simp] theorem ty83 : tyOf Try.prog 83 = some ⟨1, 24, [.nilsl], .slice 78⟩ := by kernel_rfl
@[simp] theorem ty85 : tyOf Try.prog 85 = some ⟨10, 120, [.int .i64 0, .int .i64 0, .bool false, .int .i64 0, .int .i64 0, .str [], .int .i64 0, .int .i64 0, .nilsl, .nilsl], .struct [⟨0, 1, false, 1⟩, ⟨1, 1, false, 1⟩, ⟨2, 1, false, 3⟩, ⟨3, 3, true, 0⟩, ⟨6, 1, false, 1⟩, ⟨7, 1, false, 1⟩, ⟨8, 1, false, 0⟩, ⟨9, 1, false, 0⟩] true⟩ := by kernel_rfl
@[simp] theorem ty91 : tyOf Try.prog 91 = some ⟨14, 272, [.int .i64 0, .nilsl, .nilsl, .nilsl, .nilsl, .nilsl, .nilsl, .bool false, .int .i64 0, .int .i64 0, .nilsl, .nilsl, .nilsl, .nilsl], .struct [⟨0, 1, false, 1⟩, ⟨1, 8, true, 0⟩, ⟨9, 1, false, 1⟩, ⟨10, 1, false, 0⟩, ⟨11, 1, false, 0⟩, ⟨12, 1, false, 0⟩, ⟨13, 1, false, 0⟩] true⟩ := by kernel_rfl
@[simp] theorem ty95 : tyOf Try.prog 95 = some ⟨14, 272, [.int .i64 0, .nilsl, .nilsl, .nilsl, .nilsl, .nilsl, .nilsl, .bool false, .int .i64 0, .int .i64 0, .nilsl, .nilsl, .nilsl, .nilsl], .struct [⟨0, 1, false, 1⟩, ⟨1, 8, true, 0⟩, ⟨9, 1, false, 1⟩, ⟨10, 1, false, 0⟩, ⟨11, 1, false, 0⟩, ⟨12, 1, false, 0⟩, ⟨13, 1, false, 0⟩] true⟩ := by kernel_rfl
@[simp] theorem ty98 : tyOf Try.prog 98 = some ⟨1, 8, [.nilp], .other⟩ := by kernel_rfl
@[simp] theorem ty128 : tyOf Try.prog 128 = some ⟨11, 128, [.int .i64 0, .int .i64 0, .bool false, .int .i64 0, .int .i64 0, .str [], .int .i64 0, .int .i64 0, .nilsl, .nilsl, .bool false], .struct [⟨0, 10, true, 0⟩, ⟨10, 1, false, 3⟩] true⟩ := by kernel_rfl
@[simp] theorem ty136 : tyOf Try.prog 136 = some ⟨1, 24, [.nilsl], .slice 82⟩ := by kernel_rfl
@[simp] theorem ty138 : tyOf Try.prog 138 = some ⟨1, 24, [.nilsl], .slice 25⟩ := by kernel_rfl
@[simp] theorem ty172 : tyOf Try.prog 172 = some ⟨3, 40, [.nilsl, .int .i64 0, .int .i64 0], .struct [⟨0, 1, false, 0⟩, ⟨1, 1, false, 1⟩, ⟨2, 1, false, 1⟩] true⟩ := by kernel_rfl
@[simp] theorem ty184 : tyOf Try.prog 184 = some ⟨1, 24, [.nilsl], .slice 219⟩ := by kernel_rfl
@[simp] theorem ty186 : tyOf Try.prog 186 = some ⟨10, 136, [.int .i64 0, .int .i64 0, .bool false, .int .i64 0, .int .i64 0, .str [], .str [], .str [], .nilsl, .nilsl], .struct [⟨0, 1, false, 1⟩, ⟨1, 1, false, 1⟩, ⟨2, 1, false, 3⟩, ⟨3, 3, true, 0⟩, ⟨6, 1, false, 2⟩, ⟨7, 1, false, 2⟩, ⟨8, 1, false, 0⟩, ⟨9, 1, false, 0⟩] true⟩ := by kernel_rfl
@[simp] theorem ty187 : tyOf Try.prog 187 = some ⟨1, 24, [.nilsl], .slice 224⟩ := by kernel_rfl
@[simp] theorem ty189 : tyOf Try.prog 189 = some ⟨10, 136, [.int .i64 0, .int .i64 0, .bool false, .int .i64 0, .int .i64 0, .str [], .str [], .str [], .nilsl, .nilsl], .struct [⟨0, 1, false, 1⟩, ⟨1, 1, false, 1⟩, ⟨2, 1, false, 3⟩, ⟨3, 3, true, 0⟩, ⟨6, 1, false, 2⟩, ⟨7, 1, false, 2⟩, ⟨8, 1, false, 0⟩, ⟨9, 1, false, 0⟩] true⟩ := by kernel_rfl
@[simp] theorem ty194 : tyOf Try.prog 194 = some ⟨11, 128, [.int .i64 0, .int .i64 0, .bool false, .int .i64 0, .int .i64 0, .str [], .int .i64 0, .int .i64 0, .nilsl, .nilsl, .bool false], .struct [⟨0, 10, true, 0⟩, ⟨10, 1, false, 3⟩] true⟩ := by kernel_rfl
@[simp] theorem ty200 : tyOf Try.prog 200 = some ⟨1, 8, [.int .u64 0], .int .u64⟩ := by kernel_rfl
@[simp] theorem ty215 : tyOf Try.prog 215 = some ⟨1, 24, [.nilsl], .slice 238⟩ := by kernel_rfl
@[simp] theorem ty216 : tyOf Try.prog 216 = some ⟨1, 24, [.nilsl], .slice 65⟩ := by kernel_rfl
@[simp] theorem ty217 : tyOf Try.prog 217 = some ⟨1, 24, [.nilsl], .slice 241⟩ := by kernel_rfl
@[simp] theorem ty219 : tyOf Try.prog 219 = some ⟨6, 112, [.bool false, .nilsl, .nilsl, .nilsl, .nilsl, .int .i64 0], .struct [⟨0, 1, false, 3⟩, ⟨1, 1, false, 0⟩, ⟨2, 1, false, 0⟩, ⟨3, 1, false, 0⟩, ⟨4, 1, false, 0⟩, ⟨5, 1, false, 1⟩] true⟩ := by kernel_rfl
@[simp] theorem ty220 : tyOf Try.prog 220 = some ⟨1, 24, [.nilsl], .slice 243⟩ := by kernel_rfl
@[simp] theorem ty221 : tyOf Try.prog 221 = some ⟨1, 24, [.nilsl], .slice 70⟩ := by kernel_rfl
@[simp] theorem ty222 : tyOf Try.prog 222 = some ⟨1, 24, [.nilsl], .slice 246⟩ := by kernel_rfl
@[simp] theorem ty224 : tyOf Try.prog 224 = some ⟨6, 112, [.bool false, .nilsl, .nilsl, .nilsl, .nilsl, .int .i64 0], .struct [⟨0, 1, false, 3⟩, ⟨1, 1, false, 0⟩, ⟨2, 1, false, 0⟩, ⟨3, 1, false, 0⟩, ⟨4, 1, false, 0⟩, ⟨5, 1, false, 1⟩] true⟩ := by kernel_rfl
@[simp] theorem ty238 : tyOf Try.prog 238 = some ⟨13, 176, [.bool false, .str [], .int .i64 0, .int .i64 0, .bool false, .int .i64 0, .int .i64 0, .str [], .str [], .str [], .nilsl, .nilsl, .str []], .struct [⟨0, 1, false, 3⟩, ⟨1, 1, false, 2⟩, ⟨2, 10, true, 0⟩, ⟨12, 1, false, 2⟩] true⟩ := by kernel_rfl
@[simp] theorem ty241 : tyOf Try.prog 241 = some ⟨11, 144, [.int .i64 0, .int .i64 0, .bool false, .int .i64 0, .int .i64 0, .str [], .str [], .str [], .nilsl, .nilsl, .bool false], .struct [⟨0, 10, true, 0⟩, ⟨10, 1, false, 3⟩] true⟩ := by kernel_rfl
@[simp] theorem ty243 : tyOf Try.prog 243 = some ⟨13, 176, [.bool false, .str [], .int .i64 0, .int .i64 0, .bool false, .int .i64 0, .int .i64 0, .str [], .str [], .str [], .nilsl, .nilsl, .str []], .struct [⟨0, 1, false, 3⟩, ⟨1, 1, false, 2⟩, ⟨2, 10, true, 0⟩, ⟨12, 1, false, 2⟩] true⟩ := by kernel_rfl
@[simp] theorem ty246 : tyOf Try.prog 246 = some ⟨11, 144, [.int .i64 0, .int .i64 0, .bool false, .int .i64 0, .int .i64 0, .str [], .str [], .str [], .nilsl, .nilsl, .bool false], .struct [⟨0, 10, true, 0⟩, ⟨10, 1, false, 3⟩] true⟩ := by kernel_rfl
@[simp] theorem ty257 : tyOf Try.prog 257 = some ⟨1, 4, [.int .u32 0], .int .u32⟩ := by kernel_rfl
@[simp] theorem ty261 : tyOf Try.prog 261 = some ⟨1, 8, [.nilp], .other⟩ := by kernel_rfl
theorem ok3 : CallOk Try.prog 3 := ⟨by kernel_rfl⟩
theorem ok4 : CallOk Try.prog 4 := ⟨by kernel_rfl⟩
theorem ok5 : CallOk Try.prog 5 := ⟨by kernel_rfl⟩
theorem ok6 : CallOk Try.prog 6 := ⟨by kernel_rfl⟩
theorem ok7 : CallOk Try.prog 7 := ⟨by kernel_rfl⟩
theorem ok8 : CallOk Try.prog 8 := ⟨by kernel_rfl⟩
theorem ok9 : CallOk Try.prog 9 := ⟨by kernel_rfl⟩
theorem ok10 : CallOk Try.prog 10 := ⟨by kernel_rfl⟩
theorem ok11 : CallOk Try.prog 11 := ⟨by kernel_rfl⟩
theorem ok12 : CallOk Try.prog 12 := ⟨by kernel_rfl⟩
theorem ok13 : CallOk Try.prog 13 := ⟨by kernel_rfl⟩
theorem ok14 : CallOk Try.prog 14 := ⟨by kernel_rfl⟩
theorem ok15 : CallOk Try.prog 15 := ⟨by kernel_rfl⟩
theorem ok16 : CallOk Try.prog 16 := ⟨by kernel_rfl⟩
theorem ok17 : CallOk Try.prog 17 := ⟨by kernel_rfl⟩
theorem ok18 : CallOk Try.prog 18 := ⟨by kernel_rfl⟩
theorem ok19 : CallOk Try.prog 19 := ⟨by kernel_rfl⟩
theorem ok20 : CallOk Try.prog 20 := ⟨by kernel_rfl⟩
theorem ok21 : CallOk Try.prog 21 := ⟨by kernel_rfl⟩
theorem ok22 : CallOk Try.prog 22 := ⟨by kernel_rfl⟩
theorem ok23 : CallOk Try.prog 23 := ⟨by kernel_rfl⟩
theorem ok24 : CallOk Try.prog 24 := ⟨by kernel_rfl⟩
theorem ok25 : CallOk Try.prog 25 := ⟨by kernel_rfl⟩
theorem ok26 : CallOk Try.prog 26 := ⟨by kernel_rfl⟩
theorem ok27 : CallOk Try.prog 27 := ⟨by kernel_rfl⟩
theorem ok28 : CallOk Try.prog 28 := ⟨by kernel_rfl⟩
theorem ok29 : CallOk Try.prog 29 := ⟨by kernel_rfl⟩
theorem ok30 : CallOk Try.prog 30 := ⟨by kernel_rfl⟩
theorem ok31 : CallOk Try.prog 31 := ⟨by kernel_rfl⟩
theorem ok32 : CallOk Try.prog 32 := ⟨by kernel_rfl⟩
theorem ok33 : CallOk Try.prog 33 := ⟨by kernel_rfl⟩
theorem ok34 : CallOk Try.prog 34 := ⟨by kernel_rfl⟩
theorem ok35 : CallOk Try.prog 35 := ⟨by kernel_rfl⟩
theorem ok36 : CallOk Try.prog 36 := ⟨by kernel_rfl⟩
theorem ok37 : CallOk Try.prog 37 := ⟨by kernel_rfl⟩
theorem ok38 : CallOk Try.prog 38 := ⟨by kernel_rfl⟩
theorem ok39 : CallOk Try.prog 39 := ⟨by kernel_rfl⟩
theorem ok40 : CallOk Try.prog 40 := ⟨by kernel_rfl⟩
theorem ok41 : CallOk Try.prog 41 := ⟨by kernel_rfl⟩
theorem ok42 : CallOk Try.prog 42 := ⟨by kernel_rfl⟩
theorem ok43 : CallOk Try.prog 43 := ⟨by kernel_rfl⟩
theorem ok44 : CallOk Try.prog 44 := ⟨by kernel_rfl⟩
theorem ok45 : CallOk Try.prog 45 := ⟨by kernel_rfl⟩
theorem ok46 : CallOk Try.prog 46 := ⟨by kernel_rfl⟩
theorem ok47 : CallOk Try.prog 47 := ⟨by kernel_rfl⟩
theorem ok48 : CallOk Try.prog 48 := ⟨by kernel_rfl⟩
theorem ok49 : CallOk Try.prog 49 := ⟨by kernel_rfl⟩
theorem ok50 : CallOk Try.prog 50 := ⟨by kernel_rfl⟩
theorem ok51 : CallOk Try.prog 51 := ⟨by kernel_rfl⟩
theorem ok52 : CallOk Try.prog 52 := ⟨by kernel_rfl⟩
theorem ok53 : CallOk Try.prog 53 := ⟨by kernel_rfl⟩
theorem ok54 : CallOk Try.prog 54 := ⟨by kernel_rfl⟩
theorem ok55 : CallOk Try.prog 55 := ⟨by kernel_rfl⟩
theorem ok56 : CallOk Try.prog 56 := ⟨by kernel_rfl⟩
theorem ok57 : CallOk Try.prog 57 := ⟨by kernel_rfl⟩
theorem ok58 : CallOk Try.prog 58 := ⟨by kernel_rfl⟩
theorem ok59 : CallOk Try.prog 59 := ⟨by kernel_rfl⟩
theorem ok60 : CallOk Try.prog 60 := ⟨by kernel_rfl⟩
theorem ok61 : CallOk Try.prog 61 := ⟨by kernel_rfl⟩
theorem ok62 : CallOk Try.prog 62 := ⟨by kernel_rfl⟩
theorem ok63 : CallOk Try.prog 63 := ⟨by kernel_rfl⟩
theorem ok64 : CallOk Try.prog 64 := ⟨by kernel_rfl⟩
theorem ok65 : CallOk Try.prog 65 := ⟨by kernel_rfl⟩
theorem ok66 : CallOk Try.prog 66 := ⟨by kernel_rfl⟩
theorem ok67 : CallOk Try.prog 67 := ⟨by kernel_rfl⟩
theorem ok68 : CallOk Try.prog 68 := ⟨by kernel_rfl⟩
theorem ok69 : CallOk Try.prog 69 := ⟨by kernel_rfl⟩
theorem ok70 : CallOk Try.prog 70 := ⟨by kernel_rfl⟩
theorem ok71 : CallOk Try.prog 71 := ⟨by kernel_rfl⟩
theorem ok72 : CallOk Try.prog 72 := ⟨by kernel_rfl⟩
theorem ok73 : CallOk Try.prog 73 := ⟨by kernel_rfl⟩
theorem ok74 : CallOk Try.prog 74 := ⟨by kernel_rfl⟩
theorem ok75 : CallOk Try.prog 75 := ⟨by kernel_rfl⟩
theorem ok76 : CallOk Try.prog 76 := ⟨by kernel_rfl⟩
theorem ok77 : CallOk Try.prog 77 := ⟨by kernel_rfl⟩
theorem ok78 : CallOk Try.prog 78 := ⟨by kernel_rfl⟩
theorem ok79 : CallOk Try.prog 79 := ⟨by kernel_rfl⟩
theorem ok80 : CallOk Try.prog 80 := ⟨by kernel_rfl⟩
theorem ok81 : CallOk Try.prog 81 := ⟨by kernel_rfl⟩
theorem ok82 : CallOk Try.prog 82 := ⟨by kernel_rfl⟩
theorem ok83 : CallOk Try.prog 83 := ⟨by kernel_rfl⟩
theorem ok84 : CallOk Try.prog 84 := ⟨by kernel_rfl⟩
theorem ok85 : CallOk Try.prog 85 := ⟨by kernel_rfl⟩
theorem ok86 : CallOk Try.prog 86 := ⟨by kernel_rfl⟩
theorem ok87 : CallOk Try.prog 87 := ⟨by kernel_rfl⟩
theorem ok88 : CallOk Try.prog 88 := ⟨by kernel_rfl⟩
theorem ok89 : CallOk Try.prog 89 := ⟨by kernel_rfl⟩
theorem ok90 : CallOk Try.prog 90 := ⟨by kernel_rfl⟩
theorem ok91 : CallOk Try.prog 91 := ⟨by kernel_rfl⟩
theorem ok92 : CallOk Try.prog 92 := ⟨by kernel_rfl⟩
theorem ok93 : CallOk Try.prog 93 := ⟨by kernel_rfl⟩
theorem ok94 : CallOk Try.prog 94 := ⟨by kernel_rfl⟩
theorem ok95 : CallOk Try.prog 95 := ⟨by kernel_rfl⟩
theorem ok96 : CallOk Try.prog 96 := ⟨by kernel_rfl⟩
theorem ok97 : CallOk Try.prog 97 := ⟨by kernel_rfl⟩
theorem ok98 : CallOk Try.prog 98 := ⟨by kernel_rfl⟩
theorem ok99 : CallOk Try.prog 99 := ⟨by kernel_rfl⟩
theorem ok100 : CallOk Try.prog 100 := ⟨by kernel_rfl⟩
theorem ok101 : CallOk Try.prog 101 := ⟨by kernel_rfl⟩
theorem ok102 : CallOk Try.prog 102 := ⟨by kernel_rfl⟩
theorem ok103 : CallOk Try.prog 103 := ⟨by kernel_rfl⟩
theorem ok104 : CallOk Try.prog 104 := ⟨by kernel_rfl⟩
theorem ok105 : CallOk Try.prog 105 := ⟨by kernel_rfl⟩
theorem ok106 : CallOk Try.prog 106 := ⟨by kernel_rfl⟩
theorem ok107 : CallOk Try.prog 107 := ⟨by kernel_rfl⟩
theorem ok108 : CallOk Try.prog 108 := ⟨by kernel_rfl⟩
theorem ok109 : CallOk Try.prog 109 := ⟨by kernel_rfl⟩
theorem ok110 : CallOk Try.prog 110 := ⟨by kernel_rfl⟩
theorem ok111 : CallOk Try.prog 111 := ⟨by kernel_rfl⟩
theorem ok112 : CallOk Try.prog 112 := ⟨by kernel_rfl⟩
theorem ok113 : CallOk Try.prog 113 := ⟨by kernel_rfl⟩
theorem ok114 : CallOk Try.prog 114 := ⟨by kernel_rfl⟩
theorem ok115 : CallOk Try.prog 115 := ⟨by kernel_rfl⟩
theorem ok116 : CallOk Try.prog 116 := ⟨by kernel_rfl⟩
theorem ok117 : CallOk Try.prog 117 := ⟨by kernel_rfl⟩
theorem ok118 : CallOk Try.prog 118 := ⟨by kernel_rfl⟩
theorem ok119 : CallOk Try.prog 119 := ⟨by kernel_rfl⟩
theorem ok120 : CallOk Try.prog 120 := ⟨by kernel_rfl⟩
theorem ok121 : CallOk Try.prog 121 := ⟨by kernel_rfl⟩
theorem ok122 : CallOk Try.prog 122 := ⟨by kernel_rfl⟩
theorem ok123 : CallOk Try.prog 123 := ⟨by kernel_rfl⟩
theorem ok124 : CallOk Try.prog 124 := ⟨by kernel_rfl⟩
theorem ok125 : CallOk Try.prog 125 := ⟨by kernel_rfl⟩
theorem ok126 : CallOk Try.prog 126 := ⟨by kernel_rfl⟩
theorem ok127 : CallOk Try.prog 127 := ⟨by kernel_rfl⟩
theorem ok128 : CallOk Try.prog 128 := ⟨by kernel_rfl⟩
theorem ok129 : CallOk Try.prog 129 := ⟨by kernel_rfl⟩
theorem ok130 : CallOk Try.prog 130 := ⟨by kernel_rfl⟩
theorem ok131 : CallOk Try.prog 131 := ⟨by kernel_rfl⟩
theorem ok132 : CallOk Try.prog 132 := ⟨by kernel_rfl⟩
theorem ok133 : CallOk Try.prog 133 := ⟨by kernel_rfl⟩
theorem ok134 : CallOk Try.prog 134 := ⟨by kernel_rfl⟩
theorem ok135 : CallOk Try.prog 135 := ⟨by kernel_rfl⟩
theorem ok136 : CallOk Try.prog 136 := ⟨by kernel_rfl⟩
theorem ok137 : CallOk Try.prog 137 := ⟨by kernel_rfl⟩
theorem ok138 : CallOk Try.prog 138 := ⟨by kernel_rfl⟩
theorem ok139 : CallOk Try.prog 139 := ⟨by kernel_rfl⟩
theorem ok140 : CallOk Try.prog 140 := ⟨by kernel_rfl⟩
theorem ok141 : CallOk Try.prog 141 := ⟨by kernel_rfl⟩
theorem ok142 : CallOk Try.prog 142 := ⟨by kernel_rfl⟩
theorem ok143 : CallOk Try.prog 143 := ⟨by kernel_rfl⟩
theorem ok144 : CallOk Try.prog 144 := ⟨by kernel_rfl⟩
theorem ok145 : CallOk Try.prog 145 := ⟨by kernel_rfl⟩
theorem ok146 : CallOk Try.prog 146 := ⟨by kernel_rfl⟩
theorem ok147 : CallOk Try.prog 147 := ⟨by kernel_rfl⟩
theorem ok148 : CallOk Try.prog 148 := ⟨by kernel_rfl⟩
theorem ok149 : CallOk Try.prog 149 := ⟨by kernel_rfl⟩
theorem ok150 : CallOk Try.prog 150 := ⟨by kernel_rfl⟩
theorem ok151 : CallOk Try.prog 151 := ⟨by kernel_rfl⟩
theorem ok152 : CallOk Try.prog 152 := ⟨by kernel_rfl⟩
theorem ok153 : CallOk Try.prog 153 := ⟨by kernel_rfl⟩
theorem ok154 : CallOk Try.prog 154 := ⟨by kernel_rfl⟩
theorem ok155 : CallOk Try.prog 155 := ⟨by kernel_rfl⟩
theorem ok156 : CallOk Try.prog 156 := ⟨by kernel_rfl⟩
theorem ok157 : CallOk Try.prog 157 := ⟨by kernel_rfl⟩
theorem ok158 : CallOk Try.prog 158 := ⟨by kernel_rfl⟩
theorem ok159 : CallOk Try.prog 159 := ⟨by kernel_rfl⟩
theorem ok160 : CallOk Try.prog 160 := ⟨by kernel_rfl⟩
theorem ok161 : CallOk Try.prog 161 := ⟨by kernel_rfl⟩
theorem ok162 : CallOk Try.prog 162 := ⟨by kernel_rfl⟩
theorem ok163 : CallOk Try.prog 163 := ⟨by kernel_rfl⟩
theorem ok164 : CallOk Try.prog 164 := ⟨by kernel_rfl⟩
theorem ok165 : CallOk Try.prog 165 := ⟨by kernel_rfl⟩
theorem ok166 : CallOk Try.prog 166 := ⟨by kernel_rfl⟩
theorem ok167 : CallOk Try.prog 167 := ⟨by kernel_rfl⟩
theorem ok168 : CallOk Try.prog 168 := ⟨by kernel_rfl⟩
theorem ok169 : CallOk Try.prog 169 := ⟨by kernel_rfl⟩
theorem ok170 : CallOk Try.prog 170 := ⟨by kernel_rfl⟩
theorem ok171 : CallOk Try.prog 171 := ⟨by kernel_rfl⟩
theorem ok172 : CallOk Try.prog 172 := ⟨by kernel_rfl⟩
theorem ok173 : CallOk Try.prog 173 := ⟨by kernel_rfl⟩
theorem ok174 : CallOk Try.prog 174 := ⟨by kernel_rfl⟩
theorem ok175 : CallOk Try.prog 175 := ⟨by kernel_rfl⟩
theorem ok176 : CallOk Try.prog 176 := ⟨by kernel_rfl⟩
theorem ok177 : CallOk Try.prog 177 := ⟨by kernel_rfl⟩
theorem ok178 : CallOk Try.prog 178 := ⟨by kernel_rfl⟩
theorem ok179 : CallOk Try.prog 179 := ⟨by kernel_rfl⟩
theorem ok180 : CallOk Try.prog 180 := ⟨by kernel_rfl⟩
theorem ok181 : CallOk Try.prog 181 := ⟨by kernel_rfl⟩
theorem ok182 : CallOk Try.prog 182 := ⟨by kernel_rfl⟩
theorem ok183 : CallOk Try.prog 183 := ⟨by kernel_rfl⟩
theorem ok184 : CallOk Try.prog 184 := ⟨by kernel_rfl⟩
theorem ok185 : CallOk Try.prog 185 := ⟨by kernel_rfl⟩
theorem ok186 : CallOk Try.prog 186 := ⟨by kernel_rfl⟩
theorem ok187 : CallOk Try.prog 187 := ⟨by kernel_rfl⟩
theorem ok188 : CallOk Try.prog 188 := ⟨by kernel_rfl⟩
theorem ok189 : CallOk Try.prog 189 := ⟨by kernel_rfl⟩
theorem ok190 : CallOk Try.prog 190 := ⟨by kernel_rfl⟩
theorem ok191 : CallOk Try.prog 191 := ⟨by kernel_rfl⟩
theorem ok192 : CallOk Try.prog 192 := ⟨by kernel_rfl⟩
theorem ok193 : CallOk Try.prog 193 := ⟨by kernel_rfl⟩
theorem ok194 : CallOk Try.prog 194 := ⟨by kernel_rfl⟩
theorem ok195 : CallOk Try.prog 195 := ⟨by kernel_rfl⟩
theorem ok196 : CallOk Try.prog 196 := ⟨by kernel_rfl⟩
theorem ok197 : CallOk Try.prog 197 := ⟨by kernel_rfl⟩
theorem ok198 : CallOk Try.prog 198 := ⟨by kernel_rfl⟩
theorem ok199 : CallOk Try.prog 199 := ⟨by kernel_rfl⟩
theorem ok200 : CallOk Try.prog 200 := ⟨by kernel_rfl⟩
theorem ok201 : CallOk Try.prog 201 := ⟨by kernel_rfl⟩
theorem ok202 : CallOk Try.prog 202 := ⟨by kernel_rfl⟩
theorem ok203 : CallOk Try.prog 203 := ⟨by kernel_rfl⟩
theorem ok204 : CallOk Try.prog 204 := ⟨by kernel_rfl⟩
theorem ok205 : CallOk Try.prog 205 := ⟨by kernel_rfl⟩
theorem ok206 : CallOk Try.prog 206 := ⟨by kernel_rfl⟩
theorem ok207 : CallOk Try.prog 207 := ⟨by kernel_rfl⟩
theorem ok208 : CallOk Try.prog 208 := ⟨by kernel_rfl⟩
theorem ok209 : CallOk Try.prog 209 := ⟨by kernel_rfl⟩
theorem ok210 : CallOk Try.prog 210 := ⟨by kernel_rfl⟩
theorem ok211 : CallOk Try.prog 211 := ⟨by kernel_rfl⟩
theorem ok212 : CallOk Try.prog 212 := ⟨by kernel_rfl⟩
theorem ok213 : CallOk Try.prog 213 := ⟨by kernel_rfl⟩
theorem ok214 : CallOk Try.prog 214 := ⟨by kernel_rfl⟩
theorem ok215 : CallOk Try.prog 215 := ⟨by kernel_rfl⟩
theorem ok216 : CallOk Try.prog 216 := ⟨by kernel_rfl⟩
theorem ok217 : CallOk Try.prog 217 := ⟨by kernel_rfl⟩
theorem ok218 : CallOk Try.prog 218 := ⟨by kernel_rfl⟩
theorem ok219 : CallOk Try.prog 219 := ⟨by kernel_rfl⟩
theorem ok220 : CallOk Try.prog 220 := ⟨by kernel_rfl⟩
theorem ok221 : CallOk Try.prog 221 := ⟨by kernel_rfl⟩
theorem ok222 : CallOk Try.prog 222 := ⟨by kernel_rfl⟩
theorem ok223 : CallOk Try.prog 223 := ⟨by kernel_rfl⟩
theorem ok224 : CallOk Try.prog 224 := ⟨by kernel_rfl⟩
theorem ok225 : CallOk Try.prog 225 := ⟨by kernel_rfl⟩
theorem ok226 : CallOk Try.prog 226 := ⟨by kernel_rfl⟩
theorem ok227 : CallOk Try.prog 227 := ⟨by kernel_rfl⟩
end Go.Proofs.Ytejdgmdebfkkeaa
