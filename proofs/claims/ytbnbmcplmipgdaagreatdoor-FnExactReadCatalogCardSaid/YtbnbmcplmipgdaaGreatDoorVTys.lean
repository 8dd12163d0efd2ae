/-
  The sizes, zeros and fields of the types of this translation, as closed facts. Printed by a program of our own; no condition.
-/
import Derived.Test.YtbnbmcplmipgdaaGreatDoorVCode
import Derived.Test.YtbnbmcplmipgdaaGreatDoorChecked
import Derived.KernelRfl
namespace Go.Proofs.YtbnbmcplmipgdaaGreatDoor
open Go
@[simp] theorem ty2 : tyOf Tryz.prog 2 = some ⟨1, 8, [.int .i64 0], .int .i64⟩ := by kernel_rfl
@[simp] theorem ty3 : tyOf Tryz.prog 3 = some ⟨1, 8, [.int .i64 0], .int .i64⟩ := by kernel_rfl
@[simp] theorem ty4 : tyOf Tryz.prog 4 = some ⟨1, 1, [.bool false], .bool⟩ := by kernel_rfl
@[simp] theorem ty5 : tyOf Tryz.prog 5 = some ⟨1, 1, [.int .u8 0], .int .u8⟩ := by kernel_rfl
@[simp] theorem ty9 : tyOf Tryz.prog 9 = some ⟨1, 16, [.str []], .string⟩ := by kernel_rfl
@[simp] theorem ty12 : tyOf Tryz.prog 12 = some ⟨1, 8, [.int .u64 0], .int .u64⟩ := by kernel_rfl
@[simp] theorem ty21 : tyOf Tryz.prog 21 = some ⟨1, 4, [.int .i32 0], .int .i32⟩ := by kernel_rfl
@[simp] theorem ty22 : tyOf Tryz.prog 22 = some ⟨1, 24, [.nilsl], .slice 40⟩ := by kernel_rfl
@[simp] theorem ty24 : tyOf Tryz.prog 24 = some ⟨1, 24, [.nilsl], .struct [⟨0, 1, false, 0⟩] true⟩ := by kernel_rfl
@[simp] theorem ty30 : tyOf Tryz.prog 30 = some ⟨1, 24, [.nilsl], .slice 58⟩ := by kernel_rfl
@[simp] theorem ty33 : tyOf Tryz.prog 33 = some ⟨1, 8, [.nilp], .other⟩ := by kernel_rfl
@[simp] theorem ty35 : tyOf Tryz.prog 35 = some ⟨3, 40, [.nilsl, .int .i64 0, .bool false], .struct [⟨0, 1, false, 0⟩, ⟨1, 1, false, 1⟩, ⟨2, 1, false, 3⟩] true⟩ := by kernel_rfl
@[simp] theorem ty38 : tyOf Tryz.prog 38 = some ⟨1, 24, [.nilsl], .slice 53⟩ := by kernel_rfl
@[simp] theorem ty40 : tyOf Tryz.prog 40 = some ⟨2, 40, [.str [], .nilsl], .struct [⟨0, 1, false, 2⟩, ⟨1, 1, false, 0⟩] true⟩ := by kernel_rfl
@[simp] theorem ty45 : tyOf Tryz.prog 45 = some ⟨1, 8, [.nilp], .other⟩ := by kernel_rfl
@[simp] theorem ty47 : tyOf Tryz.prog 47 = some ⟨3, 40, [.nilsl, .int .i64 0, .bool false], .struct [⟨0, 1, false, 0⟩, ⟨1, 1, false, 1⟩, ⟨2, 1, false, 3⟩] true⟩ := by kernel_rfl
@[simp] theorem ty51 : tyOf Tryz.prog 51 = some ⟨1, 24, [.nilsl], .slice 9⟩ := by kernel_rfl
@[simp] theorem ty53 : tyOf Tryz.prog 53 = some ⟨2, 24, [.str [], .int .i64 0], .struct [⟨0, 1, false, 2⟩, ⟨1, 1, false, 1⟩] true⟩ := by kernel_rfl
@[simp] theorem ty58 : tyOf Tryz.prog 58 = some ⟨3, 32, [.int .i64 0, .str [], .int .i64 0], .struct [⟨0, 1, false, 1⟩, ⟨1, 1, false, 2⟩, ⟨2, 1, false, 1⟩] true⟩ := by kernel_rfl
@[simp] theorem ty76 : tyOf Tryz.prog 76 = some ⟨1, 8, [.nilp], .other⟩ := by kernel_rfl
@[simp] theorem ty78 : tyOf Tryz.prog 78 = some ⟨2, 32, [.nilsl, .bool false], .struct [⟨0, 1, false, 0⟩, ⟨1, 1, false, 3⟩] true⟩ := by kernel_rfl
@[simp] theorem ty99 : tyOf Tryz.prog 99 = some ⟨1, 24, [.nilsl], .slice 5⟩ := by kernel_rfl
@[simp] theorem ty105 : tyOf Tryz.prog 105 = some ⟨1, 8, [.int .u64 0], .int .u64⟩ := by kernel_rfl
@[simp] theorem ty112 : tyOf Tryz.prog 112 = some ⟨1, 4, [.int .u32 0], .int .u32⟩ := by kernel_rfl
@[simp] theorem ty118 : tyOf Tryz.prog 118 = some ⟨1, 8, [.int .i64 0], .int .i64⟩ := by kernel_rfl
@[simp] theorem ty121 : tyOf Tryz.prog 121 = some ⟨1, 8, [.nilp], .other⟩ := by kernel_rfl
@[simp] theorem ty126 : tyOf Tryz.prog 126 = some ⟨1, 8, [.int .u64 0], .int .u64⟩ := by kernel_rfl
@[simp] theorem ty134 : tyOf Tryz.prog 134 = some ⟨1, 8, [.nilp], .other⟩ := by kernel_rfl
@[simp] theorem ty135 : tyOf Tryz.prog 135 = some ⟨1, 8, [.nilp], .other⟩ := by kernel_rfl
@[simp] theorem ty137 : tyOf Tryz.prog 137 = some ⟨1, 16, [.str []], .struct [⟨0, 1, false, 2⟩] true⟩ := by kernel_rfl
@[simp] theorem ty145 : tyOf Tryz.prog 145 = some ⟨2, 2, [.int .u8 0, .int .u8 0], .struct [⟨0, 1, false, 1⟩, ⟨1, 1, false, 1⟩] true⟩ := by kernel_rfl
theorem ok3 : CallOk Tryz.prog 3 := ⟨by kernel_rfl⟩
theorem ok4 : CallOk Tryz.prog 4 := ⟨by kernel_rfl⟩
theorem ok5 : CallOk Tryz.prog 5 := ⟨by kernel_rfl⟩
theorem ok6 : CallOk Tryz.prog 6 := ⟨by kernel_rfl⟩
theorem ok7 : CallOk Tryz.prog 7 := ⟨by kernel_rfl⟩
theorem ok8 : CallOk Tryz.prog 8 := ⟨by kernel_rfl⟩
theorem ok9 : CallOk Tryz.prog 9 := ⟨by kernel_rfl⟩
theorem ok10 : CallOk Tryz.prog 10 := ⟨by kernel_rfl⟩
theorem ok11 : CallOk Tryz.prog 11 := ⟨by kernel_rfl⟩
theorem ok12 : CallOk Tryz.prog 12 := ⟨by kernel_rfl⟩
theorem ok13 : CallOk Tryz.prog 13 := ⟨by kernel_rfl⟩
theorem ok14 : CallOk Tryz.prog 14 := ⟨by kernel_rfl⟩
theorem ok15 : CallOk Tryz.prog 15 := ⟨by kernel_rfl⟩
theorem ok16 : CallOk Tryz.prog 16 := ⟨by kernel_rfl⟩
theorem ok17 : CallOk Tryz.prog 17 := ⟨by kernel_rfl⟩
theorem ok18 : CallOk Tryz.prog 18 := ⟨by kernel_rfl⟩
theorem ok19 : CallOk Tryz.prog 19 := ⟨by kernel_rfl⟩
theorem ok20 : CallOk Tryz.prog 20 := ⟨by kernel_rfl⟩
theorem ok21 : CallOk Tryz.prog 21 := ⟨by kernel_rfl⟩
theorem ok22 : CallOk Tryz.prog 22 := ⟨by kernel_rfl⟩
theorem ok23 : CallOk Tryz.prog 23 := ⟨by kernel_rfl⟩
theorem ok24 : CallOk Tryz.prog 24 := ⟨by kernel_rfl⟩
theorem ok25 : CallOk Tryz.prog 25 := ⟨by kernel_rfl⟩
theorem ok26 : CallOk Tryz.prog 26 := ⟨by kernel_rfl⟩
theorem ok27 : CallOk Tryz.prog 27 := ⟨by kernel_rfl⟩
theorem ok28 : CallOk Tryz.prog 28 := ⟨by kernel_rfl⟩
theorem ok29 : CallOk Tryz.prog 29 := ⟨by kernel_rfl⟩
theorem ok30 : CallOk Tryz.prog 30 := ⟨by kernel_rfl⟩
theorem ok31 : CallOk Tryz.prog 31 := ⟨by kernel_rfl⟩
theorem ok32 : CallOk Tryz.prog 32 := ⟨by kernel_rfl⟩
theorem ok33 : CallOk Tryz.prog 33 := ⟨by kernel_rfl⟩
theorem ok34 : CallOk Tryz.prog 34 := ⟨by kernel_rfl⟩
theorem ok35 : CallOk Tryz.prog 35 := ⟨by kernel_rfl⟩
theorem ok36 : CallOk Tryz.prog 36 := ⟨by kernel_rfl⟩
theorem ok37 : CallOk Tryz.prog 37 := ⟨by kernel_rfl⟩
theorem ok38 : CallOk Tryz.prog 38 := ⟨by kernel_rfl⟩
theorem ok39 : CallOk Tryz.prog 39 := ⟨by kernel_rfl⟩
theorem ok40 : CallOk Tryz.prog 40 := ⟨by kernel_rfl⟩
theorem ok41 : CallOk Tryz.prog 41 := ⟨by kernel_rfl⟩
theorem ok42 : CallOk Tryz.prog 42 := ⟨by kernel_rfl⟩
theorem ok43 : CallOk Tryz.prog 43 := ⟨by kernel_rfl⟩
theorem ok44 : CallOk Tryz.prog 44 := ⟨by kernel_rfl⟩
theorem ok45 : CallOk Tryz.prog 45 := ⟨by kernel_rfl⟩
theorem ok46 : CallOk Tryz.prog 46 := ⟨by kernel_rfl⟩
theorem ok47 : CallOk Tryz.prog 47 := ⟨by kernel_rfl⟩
theorem ok48 : CallOk Tryz.prog 48 := ⟨by kernel_rfl⟩
theorem ok49 : CallOk Tryz.prog 49 := ⟨by kernel_rfl⟩
theorem ok50 : CallOk Tryz.prog 50 := ⟨by kernel_rfl⟩
theorem ok51 : CallOk Tryz.prog 51 := ⟨by kernel_rfl⟩
theorem ok52 : CallOk Tryz.prog 52 := ⟨by kernel_rfl⟩
theorem ok53 : CallOk Tryz.prog 53 := ⟨by kernel_rfl⟩
theorem ok54 : CallOk Tryz.prog 54 := ⟨by kernel_rfl⟩
theorem ok55 : CallOk Tryz.prog 55 := ⟨by kernel_rfl⟩
theorem ok56 : CallOk Tryz.prog 56 := ⟨by kernel_rfl⟩
theorem ok57 : CallOk Tryz.prog 57 := ⟨by kernel_rfl⟩
theorem ok58 : CallOk Tryz.prog 58 := ⟨by kernel_rfl⟩
theorem ok59 : CallOk Tryz.prog 59 := ⟨by kernel_rfl⟩
theorem ok60 : CallOk Tryz.prog 60 := ⟨by kernel_rfl⟩
theorem ok61 : CallOk Tryz.prog 61 := ⟨by kernel_rfl⟩
theorem ok62 : CallOk Tryz.prog 62 := ⟨by kernel_rfl⟩
theorem ok63 : CallOk Tryz.prog 63 := ⟨by kernel_rfl⟩
theorem ok64 : CallOk Tryz.prog 64 := ⟨by kernel_rfl⟩
theorem ok65 : CallOk Tryz.prog 65 := ⟨by kernel_rfl⟩
theorem ok66 : CallOk Tryz.prog 66 := ⟨by kernel_rfl⟩
theorem ok67 : CallOk Tryz.prog 67 := ⟨by kernel_rfl⟩
theorem ok68 : CallOk Tryz.prog 68 := ⟨by kernel_rfl⟩
theorem ok69 : CallOk Tryz.prog 69 := ⟨by kernel_rfl⟩
theorem ok70 : CallOk Tryz.prog 70 := ⟨by kernel_rfl⟩
theorem ok71 : CallOk Tryz.prog 71 := ⟨by kernel_rfl⟩
theorem ok72 : CallOk Tryz.prog 72 := ⟨by kernel_rfl⟩
theorem ok73 : CallOk Tryz.prog 73 := ⟨by kernel_rfl⟩
theorem ok74 : CallOk Tryz.prog 74 := ⟨by kernel_rfl⟩
theorem ok75 : CallOk Tryz.prog 75 := ⟨by kernel_rfl⟩
theorem ok76 : CallOk Tryz.prog 76 := ⟨by kernel_rfl⟩
theorem ok77 : CallOk Tryz.prog 77 := ⟨by kernel_rfl⟩
theorem ok78 : CallOk Tryz.prog 78 := ⟨by kernel_rfl⟩
theorem ok79 : CallOk Tryz.prog 79 := ⟨by kernel_rfl⟩
theorem ok80 : CallOk Tryz.prog 80 := ⟨by kernel_rfl⟩
theorem ok81 : CallOk Tryz.prog 81 := ⟨by kernel_rfl⟩
theorem ok82 : CallOk Tryz.prog 82 := ⟨by kernel_rfl⟩
theorem ok83 : CallOk Tryz.prog 83 := ⟨by kernel_rfl⟩
theorem ok84 : CallOk Tryz.prog 84 := ⟨by kernel_rfl⟩
theorem ok85 : CallOk Tryz.prog 85 := ⟨by kernel_rfl⟩
theorem ok86 : CallOk Tryz.prog 86 := ⟨by kernel_rfl⟩
theorem ok87 : CallOk Tryz.prog 87 := ⟨by kernel_rfl⟩
theorem ok88 : CallOk Tryz.prog 88 := ⟨by kernel_rfl⟩
theorem ok89 : CallOk Tryz.prog 89 := ⟨by kernel_rfl⟩
theorem ok90 : CallOk Tryz.prog 90 := ⟨by kernel_rfl⟩
theorem ok91 : CallOk Tryz.prog 91 := ⟨by kernel_rfl⟩
theorem ok92 : CallOk Tryz.prog 92 := ⟨by kernel_rfl⟩
theorem ok93 : CallOk Tryz.prog 93 := ⟨by kernel_rfl⟩
theorem ok94 : CallOk Tryz.prog 94 := ⟨by kernel_rfl⟩
theorem ok97 : CallOk Tryz.prog 97 := ⟨by kernel_rfl⟩
theorem ok98 : CallOk Tryz.prog 98 := ⟨by kernel_rfl⟩
theorem ok99 : CallOk Tryz.prog 99 := ⟨by kernel_rfl⟩
theorem ok100 : CallOk Tryz.prog 100 := ⟨by kernel_rfl⟩
theorem ok101 : CallOk Tryz.prog 101 := ⟨by kernel_rfl⟩
theorem ok102 : CallOk Tryz.prog 102 := ⟨by kernel_rfl⟩
theorem ok103 : CallOk Tryz.prog 103 := ⟨by kernel_rfl⟩
theorem ok104 : CallOk Tryz.prog 104 := ⟨by kernel_rfl⟩
theorem ok105 : CallOk Tryz.prog 105 := ⟨by kernel_rfl⟩
theorem ok106 : CallOk Tryz.prog 106 := ⟨by kernel_rfl⟩
theorem ok107 : CallOk Tryz.prog 107 := ⟨by kernel_rfl⟩
theorem ok108 : CallOk Tryz.prog 108 := ⟨by kernel_rfl⟩
theorem ok109 : CallOk Tryz.prog 109 := ⟨by kernel_rfl⟩
theorem ok110 : CallOk Tryz.prog 110 := ⟨by kernel_rfl⟩
theorem ok111 : CallOk Tryz.prog 111 := ⟨by kernel_rfl⟩
theorem ok112 : CallOk Tryz.prog 112 := ⟨by kernel_rfl⟩
theorem ok113 : CallOk Tryz.prog 113 := ⟨by kernel_rfl⟩
theorem ok114 : CallOk Tryz.prog 114 := ⟨by kernel_rfl⟩
theorem ok115 : CallOk Tryz.prog 115 := ⟨by kernel_rfl⟩
theorem ok116 : CallOk Tryz.prog 116 := ⟨by kernel_rfl⟩
theorem ok117 : CallOk Tryz.prog 117 := ⟨by kernel_rfl⟩
theorem ok119 : CallOk Tryz.prog 119 := ⟨by kernel_rfl⟩
theorem ok120 : CallOk Tryz.prog 120 := ⟨by kernel_rfl⟩
theorem ok121 : CallOk Tryz.prog 121 := ⟨by kernel_rfl⟩
theorem ok122 : CallOk Tryz.prog 122 := ⟨by kernel_rfl⟩
theorem ok123 : CallOk Tryz.prog 123 := ⟨by kernel_rfl⟩
theorem ok124 : CallOk Tryz.prog 124 := ⟨by kernel_rfl⟩
theorem ok125 : CallOk Tryz.prog 125 := ⟨by kernel_rfl⟩
theorem ok126 : CallOk Tryz.prog 126 := ⟨by kernel_rfl⟩
theorem ok127 : CallOk Tryz.prog 127 := ⟨by kernel_rfl⟩
theorem ok128 : CallOk Tryz.prog 128 := ⟨by kernel_rfl⟩
theorem ok129 : CallOk Tryz.prog 129 := ⟨by kernel_rfl⟩
theorem ok130 : CallOk Tryz.prog 130 := ⟨by kernel_rfl⟩
theorem ok131 : CallOk Tryz.prog 131 := ⟨by kernel_rfl⟩
theorem ok132 : CallOk Tryz.prog 132 := ⟨by kernel_rfl⟩
theorem ok133 : CallOk Tryz.prog 133 := ⟨by kernel_rfl⟩
theorem ok134 : CallOk Tryz.prog 134 := ⟨by kernel_rfl⟩
theorem ok135 : CallOk Tryz.prog 135 := ⟨by kernel_rfl⟩
theorem ok136 : CallOk Tryz.prog 136 := ⟨by kernel_rfl⟩
end Go.Proofs.YtbnbmcplmipgdaaGreatDoor
