/-
 The sizes, zeros and fields of the types of this translation, as closed facts. Printed by a program of our own; no condition.
-/
import Derived.Test.YtikghanejpigjaaVCode
import Derived.Test.YtikghanejpigjaaChecked
import Derived.KernelRfl
namespace Go.Proofs.Ytikghanejpigjaa
open Go
@[simp] theorem ty2:tyOf Try.prog 2=some ⟨1,8,[.int .i64 0],.int .i64⟩:=by kernel_rfl
@[simp] theorem ty3:tyOf Try.prog 3=some ⟨1,8,[.int .i64 0],.int .i64⟩:=by kernel_rfl
@[simp] theorem ty4:tyOf Try.prog 4=some ⟨1,1,[.bool false],.bool⟩:=by kernel_rfl
@[simp] theorem ty5:tyOf Try.prog 5=some ⟨1,1,[.int .u8 0],.int .u8⟩:=by kernel_rfl
@[simp] theorem ty9:tyOf Try.prog 9=some ⟨1,16,[.str []],.string⟩:=by kernel_rfl
@[simp] theorem ty12:tyOf Try.prog 12=some ⟨1,8,[.int .u64 0],.int .u64⟩:=by kernel_rfl
@[simp] theorem ty21:tyOf Try.prog 21=some ⟨1,4,[.int .i32 0],.int .i32⟩:=by kernel_rfl
@[simp] theorem ty22:tyOf Try.prog 22=some ⟨1,24,[.nilsl],.slice 5⟩:=by kernel_rfl
@[simp] theorem ty24:tyOf Try.prog 24=some ⟨1,24,[.nilsl],.slice 30⟩:=by kernel_rfl
@[simp] theorem ty26:tyOf Try.prog 26=some ⟨1,24,[.nilsl],.slice 28⟩:=by kernel_rfl
@[simp] theorem ty28:tyOf Try.prog 28=some ⟨1,24,[.nilsl],.slice 3⟩:=by kernel_rfl
@[simp] theorem ty30:tyOf Try.prog 30=some ⟨3,32,[.int .i64 0,.str [],.int .i64 0],.struct [⟨0,1,false,1⟩,⟨1,1,false,2⟩,⟨2,1,false,1⟩] true⟩:=by kernel_rfl
@[simp] theorem ty33:tyOf Try.prog 33=some ⟨3,32,[.int .i64 0,.int .i64 0,.str []],.struct [⟨0,1,false,1⟩,⟨1,1,false,1⟩,⟨2,1,false,2⟩] true⟩:=by kernel_rfl
@[simp] theorem ty34:tyOf Try.prog 34=some ⟨1,24,[.nilsl],.slice 37⟩:=by kernel_rfl
@[simp] theorem ty35:tyOf Try.prog 35=some ⟨1,24,[.nilsl],.slice 63⟩:=by kernel_rfl
@[simp] theorem ty37:tyOf Try.prog 37=some ⟨10,136,[.int .i64 0,.int .i64 0,.bool false,.int .i64 0,.int .i64 0,.str [],.str [],.str [],.nilsl,.nilsl],.struct [⟨0,1,false,1⟩,⟨1,1,false,1⟩,⟨2,1,false,3⟩,⟨3,3,true,0⟩,⟨6,1,false,2⟩,⟨7,1,false,2⟩,⟨8,1,false,0⟩,⟨9,1,false,0⟩] true⟩:=by kernel_rfl
@[simp] theorem ty51:tyOf Try.prog 51=some ⟨1,8,[.nilp],.other⟩:=by kernel_rfl
@[simp] theorem ty59:tyOf Try.prog 59=some ⟨1,24,[.nilsl],.slice 90⟩:=by kernel_rfl
@[simp] theorem ty60:tyOf Try.prog 60=some ⟨1,24,[.nilsl],.slice 93⟩:=by kernel_rfl
@[simp] theorem ty61:tyOf Try.prog 61=some ⟨1,24,[.nilsl],.slice 96⟩:=by kernel_rfl
@[simp] theorem ty63:tyOf Try.prog 63=some ⟨6,112,[.bool false,.nilsl,.nilsl,.nilsl,.nilsl,.int .i64 0],.struct [⟨0,1,false,3⟩,⟨1,1,false,0⟩,⟨2,1,false,0⟩,⟨3,1,false,0⟩,⟨4,1,false,0⟩,⟨5,1,false,1⟩] true⟩:=by kernel_rfl
@[simp] theorem ty75:tyOf Try.prog 75=some ⟨1,8,[.int .u64 0],.int .u64⟩:=by kernel_rfl
@[simp] theorem ty78:tyOf Try.prog 78=some ⟨3,40,[.nilsl,.int .i64 0,.int .i64 0],.struct [⟨0,1,false,0⟩,⟨1,1,false,1⟩,⟨2,1,false,1⟩] true⟩:=by kernel_rfl
@[simp] theorem ty90:tyOf Try.prog 90=some ⟨13,176,[.bool false,.str [],.int .i64 0,.int .i64 0,.bool false,.int .i64 0,.int .i64 0,.str [],.str [],.str [],.nilsl,.nilsl,.str []],.struct [⟨0,1,false,3⟩,⟨1,1,false,2⟩,⟨2,10,true,0⟩,⟨12,1,false,2⟩] true⟩:=by kernel_rfl
@[simp] theorem ty93:tyOf Try.prog 93=some ⟨3,56,[.str [],.str [],.nilsl],.struct [⟨0,1,false,2⟩,⟨1,1,false,2⟩,⟨2,1,false,0⟩] true⟩:=by kernel_rfl
@[simp] theorem ty96:tyOf Try.prog 96=some ⟨11,144,[.int .i64 0,.int .i64 0,.bool false,.int .i64 0,.int .i64 0,.str [],.str [],.str [],.nilsl,.nilsl,.bool false],.struct [⟨0,10,true,0⟩,⟨10,1,false,3⟩] true⟩:=by kernel_rfl
@[simp] theorem ty112:tyOf Try.prog 112=some ⟨1,8,[.int .i64 0],.int .i64⟩:=by kernel_rfl
@[simp] theorem ty120:tyOf Try.prog 120=some ⟨1,4,[.int .u32 0],.int .u32⟩:=by kernel_rfl
@[simp] theorem ty122:tyOf Try.prog 122=some ⟨1,8,[.int .u64 0],.int .u64⟩:=by kernel_rfl
@[simp] theorem ty124:tyOf Try.prog 124=some ⟨1,24,[.nilsl],.slice 9⟩:=by kernel_rfl
@[simp] theorem ty135:tyOf Try.prog 135=some ⟨1,8,[.int .u64 0],.int .u64⟩:=by kernel_rfl
@[simp] theorem ty139:tyOf Try.prog 139=some ⟨1,8,[.nilp],.other⟩:=by kernel_rfl
@[simp] theorem ty145:tyOf Try.prog 145=some ⟨1,8,[.nilp],.other⟩:=by kernel_rfl
@[simp] theorem ty158:tyOf Try.prog 158=some ⟨1,8,[.nilp],.other⟩:=by kernel_rfl
theorem ok3:CallOk Try.prog 3:=⟨by kernel_rfl⟩
theorem ok4:CallOk Try.prog 4:=⟨by kernel_rfl⟩
theorem ok5:CallOk Try.prog 5:=⟨by kernel_rfl⟩
theorem ok6:CallOk Try.prog 6:=⟨by kernel_rfl⟩
theorem ok7:CallOk Try.prog 7:=⟨by kernel_rfl⟩
theorem ok8:CallOk Try.prog 8:=⟨by kernel_rfl⟩
theorem ok9:CallOk Try.prog 9:=⟨by kernel_rfl⟩
theorem ok10:CallOk Try.prog 10:=⟨by kernel_rfl⟩
theorem ok11:CallOk Try.prog 11:=⟨by kernel_rfl⟩
theorem ok12:CallOk Try.prog 12:=⟨by kernel_rfl⟩
theorem ok13:CallOk Try.prog 13:=⟨by kernel_rfl⟩
theorem ok14:CallOk Try.prog 14:=⟨by kernel_rfl⟩
theorem ok15:CallOk Try.prog 15:=⟨by kernel_rfl⟩
theorem ok16:CallOk Try.prog 16:=⟨by kernel_rfl⟩
theorem ok17:CallOk Try.prog 17:=⟨by kernel_rfl⟩
theorem ok18:CallOk Try.prog 18:=⟨by kernel_rfl⟩
theorem ok19:CallOk Try.prog 19:=⟨by kernel_rfl⟩
theorem ok20:CallOk Try.prog 20:=⟨by kernel_rfl⟩
theorem ok21:CallOk Try.prog 21:=⟨by kernel_rfl⟩
theorem ok22:CallOk Try.prog 22:=⟨by kernel_rfl⟩
theorem ok23:CallOk Try.prog 23:=⟨by kernel_rfl⟩
theorem ok24:CallOk Try.prog 24:=⟨by kernel_rfl⟩
theorem ok25:CallOk Try.prog 25:=⟨by kernel_rfl⟩
theorem ok26:CallOk Try.prog 26:=⟨by kernel_rfl⟩
theorem ok27:CallOk Try.prog 27:=⟨by kernel_rfl⟩
theorem ok28:CallOk Try.prog 28:=⟨by kernel_rfl⟩
theorem ok29:CallOk Try.prog 29:=⟨by kernel_rfl⟩
theorem ok30:CallOk Try.prog 30:=⟨by kernel_rfl⟩
theorem ok31:CallOk Try.prog 31:=⟨by kernel_rfl⟩
theorem ok32:CallOk Try.prog 32:=⟨by kernel_rfl⟩
theorem ok33:CallOk Try.prog 33:=⟨by kernel_rfl⟩
theorem ok34:CallOk Try.prog 34:=⟨by kernel_rfl⟩
theorem ok35:CallOk Try.prog 35:=⟨by kernel_rfl⟩
theorem ok36:CallOk Try.prog 36:=⟨by kernel_rfl⟩
theorem ok37:CallOk Try.prog 37:=⟨by kernel_rfl⟩
theorem ok38:CallOk Try.prog 38:=⟨by kernel_rfl⟩
theorem ok39:CallOk Try.prog 39:=⟨by kernel_rfl⟩
theorem ok40:CallOk Try.prog 40:=⟨by kernel_rfl⟩
theorem ok41:CallOk Try.prog 41:=⟨by kernel_rfl⟩
theorem ok42:CallOk Try.prog 42:=⟨by kernel_rfl⟩
theorem ok43:CallOk Try.prog 43:=⟨by kernel_rfl⟩
theorem ok44:CallOk Try.prog 44:=⟨by kernel_rfl⟩
theorem ok45:CallOk Try.prog 45:=⟨by kernel_rfl⟩
theorem ok46:CallOk Try.prog 46:=⟨by kernel_rfl⟩
theorem ok47:CallOk Try.prog 47:=⟨by kernel_rfl⟩
theorem ok48:CallOk Try.prog 48:=⟨by kernel_rfl⟩
theorem ok49:CallOk Try.prog 49:=⟨by kernel_rfl⟩
theorem ok50:CallOk Try.prog 50:=⟨by kernel_rfl⟩
theorem ok51:CallOk Try.prog 51:=⟨by kernel_rfl⟩
theorem ok52:CallOk Try.prog 52:=⟨by kernel_rfl⟩
theorem ok53:CallOk Try.prog 53:=⟨by kernel_rfl⟩
theorem ok54:CallOk Try.prog 54:=⟨by kernel_rfl⟩
theorem ok55:CallOk Try.prog 55:=⟨by kernel_rfl⟩
theorem ok56:CallOk Try.prog 56:=⟨by kernel_rfl⟩
theorem ok57:CallOk Try.prog 57:=⟨by kernel_rfl⟩
theorem ok58:CallOk Try.prog 58:=⟨by kernel_rfl⟩
theorem ok59:CallOk Try.prog 59:=⟨by kernel_rfl⟩
theorem ok60:CallOk Try.prog 60:=⟨by kernel_rfl⟩
theorem ok61:CallOk Try.prog 61:=⟨by kernel_rfl⟩
theorem ok62:CallOk Try.prog 62:=⟨by kernel_rfl⟩
theorem ok63:CallOk Try.prog 63:=⟨by kernel_rfl⟩
theorem ok64:CallOk Try.prog 64:=⟨by kernel_rfl⟩
theorem ok65:CallOk Try.prog 65:=⟨by kernel_rfl⟩
theorem ok66:CallOk Try.prog 66:=⟨by kernel_rfl⟩
theorem ok67:CallOk Try.prog 67:=⟨by kernel_rfl⟩
theorem ok68:CallOk Try.prog 68:=⟨by kernel_rfl⟩
theorem ok69:CallOk Try.prog 69:=⟨by kernel_rfl⟩
theorem ok70:CallOk Try.prog 70:=⟨by kernel_rfl⟩
theorem ok71:CallOk Try.prog 71:=⟨by kernel_rfl⟩
theorem ok72:CallOk Try.prog 72:=⟨by kernel_rfl⟩
theorem ok73:CallOk Try.prog 73:=⟨by kernel_rfl⟩
theorem ok74:CallOk Try.prog 74:=⟨by kernel_rfl⟩
theorem ok75:CallOk Try.prog 75:=⟨by kernel_rfl⟩
theorem ok76:CallOk Try.prog 76:=⟨by kernel_rfl⟩
theorem ok77:CallOk Try.prog 77:=⟨by kernel_rfl⟩
theorem ok78:CallOk Try.prog 78:=⟨by kernel_rfl⟩
theorem ok79:CallOk Try.prog 79:=⟨by kernel_rfl⟩
theorem ok80:CallOk Try.prog 80:=⟨by kernel_rfl⟩
theorem ok81:CallOk Try.prog 81:=⟨by kernel_rfl⟩
theorem ok82:CallOk Try.prog 82:=⟨by kernel_rfl⟩
theorem ok83:CallOk Try.prog 83:=⟨by kernel_rfl⟩
theorem ok84:CallOk Try.prog 84:=⟨by kernel_rfl⟩
theorem ok85:CallOk Try.prog 85:=⟨by kernel_rfl⟩
theorem ok86:CallOk Try.prog 86:=⟨by kernel_rfl⟩
theorem ok87:CallOk Try.prog 87:=⟨by kernel_rfl⟩
theorem ok88:CallOk Try.prog 88:=⟨by kernel_rfl⟩
theorem ok89:CallOk Try.prog 89:=⟨by kernel_rfl⟩
theorem ok90:CallOk Try.prog 90:=⟨by kernel_rfl⟩
theorem ok91:CallOk Try.prog 91:=⟨by kernel_rfl⟩
theorem ok92:CallOk Try.prog 92:=⟨by kernel_rfl⟩
theorem ok93:CallOk Try.prog 93:=⟨by kernel_rfl⟩
theorem ok94:CallOk Try.prog 94:=⟨by kernel_rfl⟩
theorem ok95:CallOk Try.prog 95:=⟨by kernel_rfl⟩
theorem ok96:CallOk Try.prog 96:=⟨by kernel_rfl⟩
theorem ok97:CallOk Try.prog 97:=⟨by kernel_rfl⟩
theorem ok98:CallOk Try.prog 98:=⟨by kernel_rfl⟩
theorem ok99:CallOk Try.prog 99:=⟨by kernel_rfl⟩
theorem ok100:CallOk Try.prog 100:=⟨by kernel_rfl⟩
theorem ok101:CallOk Try.prog 101:=⟨by kernel_rfl⟩
theorem ok102:CallOk Try.prog 102:=⟨by kernel_rfl⟩
theorem ok103:CallOk Try.prog 103:=⟨by kernel_rfl⟩
theorem ok104:CallOk Try.prog 104:=⟨by kernel_rfl⟩
theorem ok105:CallOk Try.prog 105:=⟨by kernel_rfl⟩
theorem ok106:CallOk Try.prog 106:=⟨by kernel_rfl⟩
theorem ok107:CallOk Try.prog 107:=⟨by kernel_rfl⟩
theorem ok108:CallOk Try.prog 108:=⟨by kernel_rfl⟩
theorem ok109:CallOk Try.prog 109:=⟨by kernel_rfl⟩
theorem ok110:CallOk Try.prog 110:=⟨by kernel_rfl⟩
theorem ok111:CallOk Try.prog 111:=⟨by kernel_rfl⟩
theorem ok112:CallOk Try.prog 112:=⟨by kernel_rfl⟩
theorem ok113:CallOk Try.prog 113:=⟨by kernel_rfl⟩
theorem ok114:CallOk Try.prog 114:=⟨by kernel_rfl⟩
theorem ok115:CallOk Try.prog 115:=⟨by kernel_rfl⟩
theorem ok116:CallOk Try.prog 116:=⟨by kernel_rfl⟩
theorem ok117:CallOk Try.prog 117:=⟨by kernel_rfl⟩
end Go.Proofs.Ytikghanejpigjaa
