/-
  The types of this translation in a tree. Printed by a program of our own; no condition.
  The plain types of the laws: their values, weights, and what copies, sizes and comparisons of them do. Printed by a program of our own; no condition.
  The plain types of the laws, continued. Printed by a program of our own; no condition.
  Own work; no condition.
-/
import Derived.Test.YtolhegocbkckdaaGreatMg13
import Derived.Test.YtolhegocbkckdaaGreatVL
import Derived.KernelRfl
import Derived.Test.YtolhegocbkckdaaGreatVRow
namespace Go.Proofs.YtolhegocbkckdaaGreat
open Go
def tT:BT:=(.node 54 ⟨1,24,[.zl],.slice 27⟩ (.node 27 ⟨1,24,[.zl],.slice 3⟩ (.node 12 ⟨1,8,[.int .u64 0],.int .u64⟩ (.node 4 ⟨1,1,[.bool false],.bool⟩ (.node 3 ⟨1,8,[.int .i64 0],.int .i64⟩ (.node 2 ⟨1,8,[.int .i64 0],.int .i64⟩ .leaf .leaf) .leaf) (.node 9 ⟨1,16,[.str []],.string⟩ (.node 5 ⟨1,1,[.int .u8 0],.int .u8⟩ .leaf .leaf) .leaf)) (.node 24 ⟨1,24,[.zl],.slice 64⟩ (.node 22 ⟨1,24,[.zl],.slice 5⟩ (.node 21 ⟨1,4,[.int .i32 0],.int .i32⟩ .leaf .leaf) .leaf) (.node 26 ⟨1,24,[.zl],.struct [⟨0,1,false,0⟩] true⟩ .leaf .leaf))) (.node 42 ⟨1,24,[.zl],.slice 97⟩ (.node 30 ⟨1,24,[.zl],.slice 59⟩ (.node 29 ⟨1,24,[.zl],.slice 48⟩ (.node 28 ⟨1,24,[.zl],.slice 29⟩ .leaf .leaf) .leaf) (.node 33 ⟨8,160,[.zl,.zl,.zl,.zl,.zl,.zl,.bool false,.int .i64 0],.struct [⟨0,1,false,0⟩,⟨1,1,false,0⟩,⟨2,1,false,0⟩,⟨3,1,false,0⟩,⟨4,1,false,0⟩,⟨5,1,false,0⟩,⟨6,1,false,3⟩,⟨7,1,false,1⟩] true⟩ (.node 31 ⟨1,24,[.zl],.slice 9⟩ .leaf .leaf) .leaf)) (.node 48 ⟨10,120,[.int .i64 0,.int .i64 0,.bool false,.int .i64 0,.int .i64 0,.str [],.int .i64 0,.int .i64 0,.zl,.zl],.struct [⟨0,1,false,1⟩,⟨1,1,false,1⟩,⟨2,1,false,3⟩,⟨3,3,true,0⟩,⟨6,1,false,1⟩,⟨7,1,false,1⟩,⟨8,1,false,0⟩,⟨9,1,false,0⟩] true⟩ (.node 46 ⟨1,24,[.zl],.slice 33⟩ (.node 45 ⟨3,32,[.int .i64 0,.int .i64 0,.str []],.struct [⟨0,1,false,1⟩,⟨1,1,false,1⟩,⟨2,1,false,2⟩] true⟩ .leaf .leaf) .leaf) (.node 50 ⟨1,8,[.kC],.other⟩ .leaf .leaf)))) (.node 130 ⟨1,8,[.int .u64 0],.int .u64⟩ (.node 99 ⟨3,40,[.zl,.int .i64 0,.int .i64 0],.struct [⟨0,1,false,0⟩,⟨1,1,false,1⟩,⟨2,1,false,1⟩] true⟩ (.node 64 ⟨2,40,[.str [],.zl],.struct [⟨0,1,false,2⟩,⟨1,1,false,0⟩] true⟩ (.node 62 ⟨1,24,[.zl],.slice 69⟩ (.node 59 ⟨11,128,[.int .i64 0,.int .i64 0,.bool false,.int .i64 0,.int .i64 0,.str [],.int .i64 0,.int .i64 0,.zl,.zl,.bool false],.struct [⟨0,10,true,0⟩,⟨10,1,false,3⟩] true⟩ .leaf .leaf) .leaf) (.node 97 ⟨3,24,[.int .i64 0,.int .i64 0,.int .i64 0],.struct [⟨0,1,false,1⟩,⟨1,1,false,1⟩,⟨2,1,false,1⟩] true⟩ (.node 69 ⟨2,24,[.str [],.int .i64 0],.struct [⟨0,1,false,2⟩,⟨1,1,false,1⟩] true⟩ .leaf .leaf) .leaf)) (.node 119 ⟨1,24,[.zl],.slice 162⟩ (.node 118 ⟨1,24,[.zl],.slice 121⟩ (.node 115 ⟨7,32,[.bool false,.bool false,.bool false,.bool false,.int .i64 0,.int .i64 0,.int .i64 0],.struct [⟨0,1,false,3⟩,⟨1,1,false,3⟩,⟨2,1,false,3⟩,⟨3,1,false,3⟩,⟨4,1,false,1⟩,⟨5,1,false,1⟩,⟨6,1,false,1⟩] true⟩ .leaf .leaf) .leaf) (.node 121 ⟨10,136,[.int .i64 0,.int .i64 0,.bool false,.int .i64 0,.int .i64 0,.str [],.str [],.str [],.zl,.zl],.struct [⟨0,1,false,1⟩,⟨1,1,false,1⟩,⟨2,1,false,3⟩,⟨3,3,true,0⟩,⟨6,1,false,2⟩,⟨7,1,false,2⟩,⟨8,1,false,0⟩,⟨9,1,false,0⟩] true⟩ .leaf .leaf))) (.node 160 ⟨1,24,[.zl],.slice 169⟩ (.node 158 ⟨1,24,[.zl],.slice 165⟩ (.node 153 ⟨1,8,[.kC],.other⟩ (.node 149 ⟨1,4,[.int .u32 0],.int .u32⟩ .leaf .leaf) .leaf) (.node 159 ⟨1,24,[.zl],.slice 167⟩ .leaf .leaf)) (.node 167 ⟨3,56,[.str [],.str [],.zl],.struct [⟨0,1,false,2⟩,⟨1,1,false,2⟩,⟨2,1,false,0⟩] true⟩ (.node 165 ⟨13,176,[.bool false,.str [],.int .i64 0,.int .i64 0,.bool false,.int .i64 0,.int .i64 0,.str [],.str [],.str [],.zl,.zl,.str []],.struct [⟨0,1,false,3⟩,⟨1,1,false,2⟩,⟨2,10,true,0⟩,⟨12,1,false,2⟩] true⟩ (.node 162 ⟨6,112,[.bool false,.zl,.zl,.zl,.zl,.int .i64 0],.struct [⟨0,1,false,3⟩,⟨1,1,false,0⟩,⟨2,1,false,0⟩,⟨3,1,false,0⟩,⟨4,1,false,0⟩,⟨5,1,false,1⟩] true⟩ .leaf .leaf) .leaf) (.node 169 ⟨11,144,[.int .i64 0,.int .i64 0,.bool false,.int .i64 0,.int .i64 0,.str [],.str [],.str [],.zl,.zl,.bool false],.struct [⟨0,10,true,0⟩,⟨10,1,false,3⟩] true⟩ .leaf .leaf)))))
theorem zx:tT.ok Tryz.prog:=⟨NU,⟨Np,⟨Ng,⟨Rl,⟨Ri,⟨Gf,trivial,trivial⟩,trivial⟩,⟨Rn,⟨Rm,trivial,trivial⟩,trivial⟩⟩,⟨Nl,⟨Ni,⟨Nh,trivial,trivial⟩,trivial⟩,⟨Nn,trivial,trivial⟩⟩⟩,⟨NK,⟨Nt,⟨Ns,⟨Nr,trivial,trivial⟩,trivial⟩,⟨NQ,⟨NZ,trivial,trivial⟩,trivial⟩⟩,⟨NW,⟨NV,⟨NJ,trivial,trivial⟩,trivial⟩,⟨NY,trivial,trivial⟩⟩⟩⟩,⟨GK,⟨NM,⟨ND,⟨NC,⟨NA,trivial,trivial⟩,trivial⟩,⟨NH,⟨NG,trivial,trivial⟩,trivial⟩⟩,⟨GQ,⟨GZ,⟨Gt,trivial,trivial⟩,trivial⟩,⟨GX,trivial,trivial⟩⟩⟩,⟨GA,⟨GY,⟨GV,⟨GJ,trivial,trivial⟩,trivial⟩,⟨GU,trivial,trivial⟩⟩,⟨GL,⟨GH,⟨GD,trivial,trivial⟩,trivial⟩,⟨GN,trivial,trivial⟩⟩⟩⟩⟩
end Go.Proofs.YtolhegocbkckdaaGreat

namespace Go.Proofs.YtolhegocbkckdaaGreat
open Go
set_option linter.unusedSimpArgs false
set_option linter.unusedVariables false
def kM {α : Type} (f : α → Nat) (l:List α):Nat:=(l.map f).sum
def bY {α : Type} (f : α → Nat) (l:List α):Nat:=l.length+kM f l
theorem Y4 {α : Type} {f : α → Nat} {l:List α} {i:Nat} (h:i<l.length):kM f (l.take (i+1))=kM f (l.take i)+f l[i]:=by
 unfold kM
 rw [List.take_succ_eq_append_getElem h,List.map_append,List.sum_append]
 rfl
theorem dS {α : Type} (f : α → Nat) (l:List α) (i:Nat):kM f (l.take i)≤kM f l:=by
 unfold kM
 conv=>rhs;rw [← List.take_append_drop i l]
 rw [List.map_append,List.sum_append]
 omega
theorem Lu {α : Type} {f : α → Nat} {l:List α} {i:Nat} (h:l.length≤i):kM f (l.take i)=kM f l:=by rw [List.take_of_length_le h]
theorem dX {α : Type} {f : α → Nat} {l:List α} {i:Nat} (h:i<l.length):f l[i]≤kM f l:=by
 have h1:=Y4 (f:=f) h
 have h2:=dS f l (i+1)
 omega
theorem jA {α : Type} (f : α → Nat) (l:List α):l.length≤bY f l:=by unfold bY;omega
theorem iB {α : Type} {f : α → Nat} {l:List α} {i:Nat} (h:i<l.length):f l[i]≤bY f l:=by have:=dX (f:=f) h;unfold bY;omega
theorem Mv:maxLen≤9223372036854775807:=by unfold maxLen;omega
theorem Mw {P:Program} {n:Nat} {t:TypeId} {v:V} (ht:P.underlying t=some (.int .i64)) (h:Has P n t v):∃ a,v = .int .i64 a:=Has.int ht h
structure Val where
 kind:Int
 num:Int
 text:List UInt8
def Val.zF (x:Val):V := .agg [.int .i64 x.kind,.int .i64 x.num,.str x.text]
@[simp] theorem Val.forget (x:Val):x.zF.forget=x.zF:=by simp [Val.zF]
@[simp] theorem Val.dat (x:Val):x.zF.dat=true:=by simp [Val.zF]
def Val.xS (l:List Val):V := .sl 0 (l.map Val.zF)
@[simp] theorem Val.yQ (l:List Val):(Val.xS l).forget=Val.xS l:=by simp [Val.xS]
@[simp] theorem Val.Zf (l:List Val):(Val.xS l).dat=true:=by simp [Val.xS]
def Val.wt (x:Val):Nat:=x.text.length
structure Col where
 name:List UInt8
 type:Int
def Col.zF (x:Col):V := .agg [.str x.name,.int .i64 x.type]
@[simp] theorem Col.forget (x:Col):x.zF.forget=x.zF:=by simp [Col.zF]
@[simp] theorem Col.dat (x:Col):x.zF.dat=true:=by simp [Col.zF]
def Col.xS (l:List Col):V := .sl 0 (l.map Col.zF)
@[simp] theorem Col.yQ (l:List Col):(Col.xS l).forget=Col.xS l:=by simp [Col.xS]
@[simp] theorem Col.Zf (l:List Col):(Col.xS l).dat=true:=by simp [Col.xS]
def Col.wt (x:Col):Nat:=x.name.length
structure Tab where
 name:List UInt8
 qO:List Col
def Tab.zF (x:Tab):V := .agg [.str x.name,.sl 0 (x.qO.map Col.zF)]
@[simp] theorem Tab.forget (x:Tab):x.zF.forget=x.zF:=by simp [Tab.zF]
@[simp] theorem Tab.dat (x:Tab):x.zF.dat=true:=by simp [Tab.zF]
def Tab.xS (l:List Tab):V := .sl 0 (l.map Tab.zF)
@[simp] theorem Tab.yQ (l:List Tab):(Tab.xS l).forget=Tab.xS l:=by simp [Tab.xS]
@[simp] theorem Tab.Zf (l:List Tab):(Tab.xS l).dat=true:=by simp [Tab.xS]
def Tab.wt (x:Tab):Nat:=x.name.length+bY Col.wt x.qO
structure jy where
 tables:List Tab
def jy.zF (x:jy):V := .agg [.sl 0 (x.tables.map Tab.zF)]
@[simp] theorem jy.forget (x:jy):x.zF.forget=x.zF:=by simp [jy.zF]
@[simp] theorem jy.dat (x:jy):x.zF.dat=true:=by simp [jy.zF]
def jy.xS (l:List jy):V := .sl 0 (l.map jy.zF)
@[simp] theorem jy.yQ (l:List jy):(jy.xS l).forget=jy.xS l:=by simp [jy.xS]
@[simp] theorem jy.Zf (l:List jy):(jy.xS l).dat=true:=by simp [jy.xS]
def jy.wt (x:jy):Nat:=bY Tab.wt x.tables
structure Named where
 rM:List UInt8
 name:List UInt8
 type:Int
def Named.zF (x:Named):V := .agg [.str x.rM,.str x.name,.int .i64 x.type]
@[simp] theorem Named.forget (x:Named):x.zF.forget=x.zF:=by simp [Named.zF]
@[simp] theorem Named.dat (x:Named):x.zF.dat=true:=by simp [Named.zF]
def Named.xS (l:List Named):V := .sl 0 (l.map Named.zF)
@[simp] theorem Named.yQ (l:List Named):(Named.xS l).forget=Named.xS l:=by simp [Named.xS]
@[simp] theorem Named.Zf (l:List Named):(Named.xS l).dat=true:=by simp [Named.xS]
def Named.wt (x:Named):Nat:=x.rM.length+x.name.length
structure Scope where
 names:List Named
def Scope.zF (x:Scope):V := .agg [.sl 0 (x.names.map Named.zF)]
@[simp] theorem Scope.forget (x:Scope):x.zF.forget=x.zF:=by simp [Scope.zF]
@[simp] theorem Scope.dat (x:Scope):x.zF.dat=true:=by simp [Scope.zF]
def Scope.xS (l:List Scope):V := .sl 0 (l.map Scope.zF)
@[simp] theorem Scope.yQ (l:List Scope):(Scope.xS l).forget=Scope.xS l:=by simp [Scope.xS]
@[simp] theorem Scope.Zf (l:List Scope):(Scope.xS l).dat=true:=by simp [Scope.xS]
def Scope.wt (x:Scope):Nat:=bY Named.wt x.names
structure Bind where
 up:Int
 pos:Int
 type:Int
def Bind.zF (x:Bind):V := .agg [.int .i64 x.up,.int .i64 x.pos,.int .i64 x.type]
@[simp] theorem Bind.forget (x:Bind):x.zF.forget=x.zF:=by simp [Bind.zF]
@[simp] theorem Bind.dat (x:Bind):x.zF.dat=true:=by simp [Bind.zF]
def Bind.xS (l:List Bind):V := .sl 0 (l.map Bind.zF)
@[simp] theorem Bind.yQ (l:List Bind):(Bind.xS l).forget=Bind.xS l:=by simp [Bind.xS]
@[simp] theorem Bind.Zf (l:List Bind):(Bind.xS l).dat=true:=by simp [Bind.xS]
def Bind.wt (x:Bind):Nat:=0
structure Data where
 rows:List (List Val)
def Data.zF (x:Data):V := .agg [.sl 0 (x.rows.map Val.xS)]
@[simp] theorem Data.forget (x:Data):x.zF.forget=x.zF:=by simp [Data.zF]
@[simp] theorem Data.dat (x:Data):x.zF.dat=true:=by simp [Data.zF]
def Data.xS (l:List Data):V := .sl 0 (l.map Data.zF)
@[simp] theorem Data.yQ (l:List Data):(Data.xS l).forget=Data.xS l:=by simp [Data.xS]
@[simp] theorem Data.Zf (l:List Data):(Data.xS l).dat=true:=by simp [Data.xS]
def Data.wt (x:Data):Nat:=bY (bY Val.wt) x.rows
structure Db where
 tables:List Data
def Db.zF (x:Db):V := .agg [.sl 0 (x.tables.map Data.zF)]
@[simp] theorem Db.forget (x:Db):x.zF.forget=x.zF:=by simp [Db.zF]
@[simp] theorem Db.dat (x:Db):x.zF.dat=true:=by simp [Db.zF]
def Db.xS (l:List Db):V := .sl 0 (l.map Db.zF)
@[simp] theorem Db.yQ (l:List Db):(Db.xS l).forget=Db.xS l:=by simp [Db.xS]
@[simp] theorem Db.Zf (l:List Db):(Db.xS l).dat=true:=by simp [Db.xS]
def Db.wt (x:Db):Nat:=bY Data.wt x.tables
structure Token where
 kind:Int
 text:List UInt8
 pos:Int
def Token.zF (x:Token):V := .agg [.int .i64 x.kind,.str x.text,.int .i64 x.pos]
@[simp] theorem Token.forget (x:Token):x.zF.forget=x.zF:=by simp [Token.zF]
@[simp] theorem Token.dat (x:Token):x.zF.dat=true:=by simp [Token.zF]
def Token.xS (l:List Token):V := .sl 0 (l.map Token.zF)
@[simp] theorem Token.yQ (l:List Token):(Token.xS l).forget=Token.xS l:=by simp [Token.xS]
@[simp] theorem Token.Zf (l:List Token):(Token.xS l).dat=true:=by simp [Token.xS]
def Token.wt (x:Token):Nat:=x.text.length
structure wV where
 code:Int
 pos:Int
def wV.zF (x:wV):V := .agg [.int .i64 x.code,.int .i64 x.pos]
@[simp] theorem wV.forget (x:wV):x.zF.forget=x.zF:=by simp [wV.zF]
@[simp] theorem wV.dat (x:wV):x.zF.dat=true:=by simp [wV.zF]
def wV.xS (l:List wV):V := .sl 0 (l.map wV.zF)
@[simp] theorem wV.yQ (l:List wV):(wV.xS l).forget=wV.xS l:=by simp [wV.xS]
@[simp] theorem wV.Zf (l:List wV):(wV.xS l).dat=true:=by simp [wV.xS]
def wV.wt (x:wV):Nat:=0
structure jP where
 code:Int
 name:List UInt8
def jP.zF (x:jP):V := .agg [.int .i64 x.code,.str x.name]
@[simp] theorem jP.forget (x:jP):x.zF.forget=x.zF:=by simp [jP.zF]
@[simp] theorem jP.dat (x:jP):x.zF.dat=true:=by simp [jP.zF]
def jP.xS (l:List jP):V := .sl 0 (l.map jP.zF)
@[simp] theorem jP.yQ (l:List jP):(jP.xS l).forget=jP.xS l:=by simp [jP.xS]
@[simp] theorem jP.Zf (l:List jP):(jP.xS l).dat=true:=by simp [jP.xS]
def jP.wt (x:jP):Nat:=x.name.length
end Go.Proofs.YtolhegocbkckdaaGreat

namespace Go.Proofs.YtolhegocbkckdaaGreat
open Go
set_option linter.unusedSimpArgs false
set_option linter.unusedVariables false
end Go.Proofs.YtolhegocbkckdaaGreat
