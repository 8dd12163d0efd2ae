/-
  The types of this translation in a tree. Printed by a program of our own; no condition.
  The plain types of the laws: their values, weights, and what copies, sizes and comparisons of them do. Printed by a program of our own; no condition.
  The plain types of the laws, continued. Printed by a program of our own; no condition.
  Tables, columns and scopes looked up by name, of the program and of the reference.
  What marks data and what finds it marked.
  Values and whether a row's values fit types, of the program and of the reference.
  Copies as results of new memory alone. Printed by a program of our own; no condition.
  Own work; no condition.
-/
import Derived.Test.YtikghanejpigjaaVTys
import Derived.Test.YtikghanejpigjaaVL
import Derived.KernelRfl
import Derived.Test.YtikghanejpigjaaVRow
import Derived.Test.YtikghanejpigjaaMg10
namespace Go.Proofs.Ytikghanejpigjaa
open Go
def tT:BT:=(.node 59 ⟨1,24,[.nilsl],.slice 90⟩ (.node 24 ⟨1,24,[.nilsl],.slice 30⟩ (.node 9 ⟨1,16,[.str []],.string⟩ (.node 4 ⟨1,1,[.bool false],.bool⟩ (.node 3 ⟨1,8,[.int .i64 0],.int .i64⟩ (.node 2 ⟨1,8,[.int .i64 0],.int .i64⟩ .leaf .leaf) .leaf) (.node 5 ⟨1,1,[.int .u8 0],.int .u8⟩ .leaf .leaf)) (.node 21 ⟨1,4,[.int .i32 0],.int .i32⟩ (.node 12 ⟨1,8,[.int .u64 0],.int .u64⟩ .leaf .leaf) (.node 22 ⟨1,24,[.nilsl],.slice 5⟩ .leaf .leaf))) (.node 34 ⟨1,24,[.nilsl],.slice 37⟩ (.node 30 ⟨3,32,[.int .i64 0,.str [],.int .i64 0],.struct [⟨0,1,false,1⟩,⟨1,1,false,2⟩,⟨2,1,false,1⟩] true⟩ (.node 28 ⟨1,24,[.nilsl],.slice 3⟩ (.node 26 ⟨1,24,[.nilsl],.slice 28⟩ .leaf .leaf) .leaf) (.node 33 ⟨3,32,[.int .i64 0,.int .i64 0,.str []],.struct [⟨0,1,false,1⟩,⟨1,1,false,1⟩,⟨2,1,false,2⟩] true⟩ .leaf .leaf)) (.node 37 ⟨10,136,[.int .i64 0,.int .i64 0,.bool false,.int .i64 0,.int .i64 0,.str [],.str [],.str [],.nilsl,.nilsl],.struct [⟨0,1,false,1⟩,⟨1,1,false,1⟩,⟨2,1,false,3⟩,⟨3,3,true,0⟩,⟨6,1,false,2⟩,⟨7,1,false,2⟩,⟨8,1,false,0⟩,⟨9,1,false,0⟩] true⟩ (.node 35 ⟨1,24,[.nilsl],.slice 63⟩ .leaf .leaf) (.node 51 ⟨1,8,[.nilp],.other⟩ .leaf .leaf)))) (.node 112 ⟨1,8,[.int .i64 0],.int .i64⟩ (.node 78 ⟨3,40,[.nilsl,.int .i64 0,.int .i64 0],.struct [⟨0,1,false,0⟩,⟨1,1,false,1⟩,⟨2,1,false,1⟩] true⟩ (.node 63 ⟨6,112,[.bool false,.nilsl,.nilsl,.nilsl,.nilsl,.int .i64 0],.struct [⟨0,1,false,3⟩,⟨1,1,false,0⟩,⟨2,1,false,0⟩,⟨3,1,false,0⟩,⟨4,1,false,0⟩,⟨5,1,false,1⟩] true⟩ (.node 61 ⟨1,24,[.nilsl],.slice 96⟩ (.node 60 ⟨1,24,[.nilsl],.slice 93⟩ .leaf .leaf) .leaf) (.node 75 ⟨1,8,[.int .u64 0],.int .u64⟩ .leaf .leaf)) (.node 93 ⟨3,56,[.str [],.str [],.nilsl],.struct [⟨0,1,false,2⟩,⟨1,1,false,2⟩,⟨2,1,false,0⟩] true⟩ (.node 90 ⟨13,176,[.bool false,.str [],.int .i64 0,.int .i64 0,.bool false,.int .i64 0,.int .i64 0,.str [],.str [],.str [],.nilsl,.nilsl,.str []],.struct [⟨0,1,false,3⟩,⟨1,1,false,2⟩,⟨2,10,true,0⟩,⟨12,1,false,2⟩] true⟩ .leaf .leaf) (.node 96 ⟨11,144,[.int .i64 0,.int .i64 0,.bool false,.int .i64 0,.int .i64 0,.str [],.str [],.str [],.nilsl,.nilsl,.bool false],.struct [⟨0,10,true,0⟩,⟨10,1,false,3⟩] true⟩ .leaf .leaf))) (.node 135 ⟨1,8,[.int .u64 0],.int .u64⟩ (.node 122 ⟨1,8,[.int .u64 0],.int .u64⟩ (.node 120 ⟨1,4,[.int .u32 0],.int .u32⟩ .leaf .leaf) (.node 124 ⟨1,24,[.nilsl],.slice 9⟩ .leaf .leaf)) (.node 145 ⟨1,8,[.nilp],.other⟩ (.node 139 ⟨1,8,[.nilp],.other⟩ .leaf .leaf) (.node 158 ⟨1,8,[.nilp],.other⟩ .leaf .leaf)))))
theorem tT_ok:tT.ok Try.prog:=⟨ty59,⟨ty24,⟨ty9,⟨ty4,⟨ty3,⟨ty2,trivial,trivial⟩,trivial⟩,⟨ty5,trivial,trivial⟩⟩,⟨ty21,⟨ty12,trivial,trivial⟩,⟨ty22,trivial,trivial⟩⟩⟩,⟨ty34,⟨ty30,⟨ty28,⟨ty26,trivial,trivial⟩,trivial⟩,⟨ty33,trivial,trivial⟩⟩,⟨ty37,⟨ty35,trivial,trivial⟩,⟨ty51,trivial,trivial⟩⟩⟩⟩,⟨ty112,⟨ty78,⟨ty63,⟨ty61,⟨ty60,trivial,trivial⟩,trivial⟩,⟨ty75,trivial,trivial⟩⟩,⟨ty93,⟨ty90,trivial,trivial⟩,⟨ty96,trivial,trivial⟩⟩⟩,⟨ty135,⟨ty122,⟨ty120,trivial,trivial⟩,⟨ty124,trivial,trivial⟩⟩,⟨ty145,⟨ty139,trivial,trivial⟩,⟨ty158,trivial,trivial⟩⟩⟩⟩⟩
end Go.Proofs.Ytikghanejpigjaa

namespace Go.Proofs.Ytikghanejpigjaa
open Go
set_option linter.unusedSimpArgs false
set_option linter.unusedVariables false
def sumW {α : Type} (f : α → Nat) (l:List α):Nat:=(l.map f).sum
def slW {α : Type} (f : α → Nat) (l:List α):Nat:=l.length+sumW f l
theorem sumW_take {α : Type} {f : α → Nat} {l:List α} {i:Nat} (h:i<l.length):sumW f (l.take (i+1))=sumW f (l.take i)+f l[i]:=by
 unfold sumW
 rw [List.take_succ_eq_append_getElem h,List.map_append,List.sum_append]
 rfl
theorem sumW_take_le {α : Type} (f : α → Nat) (l:List α) (i:Nat):sumW f (l.take i)≤sumW f l:=by
 unfold sumW
 conv=>rhs;rw [← List.take_append_drop i l]
 rw [List.map_append,List.sum_append]
 omega
theorem sumW_all {α : Type} {f : α → Nat} {l:List α} {i:Nat} (h:l.length≤i):sumW f (l.take i)=sumW f l:=by rw [List.take_of_length_le h]
theorem sumW_mem {α : Type} {f : α → Nat} {l:List α} {i:Nat} (h:i<l.length):f l[i]≤sumW f l:=by
 have h1:=sumW_take (f:=f) h
 have h2:=sumW_take_le f l (i+1)
 omega
theorem len_slW {α : Type} (f : α → Nat) (l:List α):l.length≤slW f l:=by unfold slW;omega
theorem mem_slW {α : Type} {f : α → Nat} {l:List α} {i:Nat} (h:i<l.length):f l[i]≤slW f l:=by have:=sumW_mem (f:=f) h;unfold slW;omega
theorem len_max:maxLen≤9223372036854775807:=by unfold maxLen;omega
theorem int_has {P:Program} {n:Nat} {t:TypeId} {v:V} (ht:P.underlying t=some (.int .i64)) (h:Has P n t v):∃ a,v = .int .i64 a:=Has.int ht h
structure Val where
 kind:Int
 num:Int
 text:List UInt8
def Val.toV (x:Val):V := .agg [.int .i64 x.kind,.int .i64 x.num,.str x.text]
@[simp] theorem Val.forget (x:Val):x.toV.forget=x.toV:=by simp [Val.toV]
@[simp] theorem Val.dat (x:Val):x.toV.dat=true:=by simp [Val.toV]
def Val.toVS (l:List Val):V := .sl 0 (l.map Val.toV)
@[simp] theorem Val.forgetS (l:List Val):(Val.toVS l).forget=Val.toVS l:=by simp [Val.toVS]
@[simp] theorem Val.datS (l:List Val):(Val.toVS l).dat=true:=by simp [Val.toVS]
def Val.wt (x:Val):Nat:=x.text.length
structure Col where
 name:List UInt8
 type:Int
def Col.toV (x:Col):V := .agg [.str x.name,.int .i64 x.type]
@[simp] theorem Col.forget (x:Col):x.toV.forget=x.toV:=by simp [Col.toV]
@[simp] theorem Col.dat (x:Col):x.toV.dat=true:=by simp [Col.toV]
def Col.toVS (l:List Col):V := .sl 0 (l.map Col.toV)
@[simp] theorem Col.forgetS (l:List Col):(Col.toVS l).forget=Col.toVS l:=by simp [Col.toVS]
@[simp] theorem Col.datS (l:List Col):(Col.toVS l).dat=true:=by simp [Col.toVS]
def Col.wt (x:Col):Nat:=x.name.length
structure Tab where
 name:List UInt8
 cols:List Col
def Tab.toV (x:Tab):V := .agg [.str x.name,.sl 0 (x.cols.map Col.toV)]
@[simp] theorem Tab.forget (x:Tab):x.toV.forget=x.toV:=by simp [Tab.toV]
@[simp] theorem Tab.dat (x:Tab):x.toV.dat=true:=by simp [Tab.toV]
def Tab.toVS (l:List Tab):V := .sl 0 (l.map Tab.toV)
@[simp] theorem Tab.forgetS (l:List Tab):(Tab.toVS l).forget=Tab.toVS l:=by simp [Tab.toVS]
@[simp] theorem Tab.datS (l:List Tab):(Tab.toVS l).dat=true:=by simp [Tab.toVS]
def Tab.wt (x:Tab):Nat:=x.name.length+slW Col.wt x.cols
structure Cat where
 tables:List Tab
def Cat.toV (x:Cat):V := .agg [.sl 0 (x.tables.map Tab.toV)]
@[simp] theorem Cat.forget (x:Cat):x.toV.forget=x.toV:=by simp [Cat.toV]
@[simp] theorem Cat.dat (x:Cat):x.toV.dat=true:=by simp [Cat.toV]
def Cat.toVS (l:List Cat):V := .sl 0 (l.map Cat.toV)
@[simp] theorem Cat.forgetS (l:List Cat):(Cat.toVS l).forget=Cat.toVS l:=by simp [Cat.toVS]
@[simp] theorem Cat.datS (l:List Cat):(Cat.toVS l).dat=true:=by simp [Cat.toVS]
def Cat.wt (x:Cat):Nat:=slW Tab.wt x.tables
structure Named where
 qual:List UInt8
 name:List UInt8
 type:Int
def Named.toV (x:Named):V := .agg [.str x.qual,.str x.name,.int .i64 x.type]
@[simp] theorem Named.forget (x:Named):x.toV.forget=x.toV:=by simp [Named.toV]
@[simp] theorem Named.dat (x:Named):x.toV.dat=true:=by simp [Named.toV]
def Named.toVS (l:List Named):V := .sl 0 (l.map Named.toV)
@[simp] theorem Named.forgetS (l:List Named):(Named.toVS l).forget=Named.toVS l:=by simp [Named.toVS]
@[simp] theorem Named.datS (l:List Named):(Named.toVS l).dat=true:=by simp [Named.toVS]
def Named.wt (x:Named):Nat:=x.qual.length+x.name.length
structure Scope where
 names:List Named
def Scope.toV (x:Scope):V := .agg [.sl 0 (x.names.map Named.toV)]
@[simp] theorem Scope.forget (x:Scope):x.toV.forget=x.toV:=by simp [Scope.toV]
@[simp] theorem Scope.dat (x:Scope):x.toV.dat=true:=by simp [Scope.toV]
def Scope.toVS (l:List Scope):V := .sl 0 (l.map Scope.toV)
@[simp] theorem Scope.forgetS (l:List Scope):(Scope.toVS l).forget=Scope.toVS l:=by simp [Scope.toVS]
@[simp] theorem Scope.datS (l:List Scope):(Scope.toVS l).dat=true:=by simp [Scope.toVS]
def Scope.wt (x:Scope):Nat:=slW Named.wt x.names
structure Bind where
 up:Int
 pos:Int
 type:Int
def Bind.toV (x:Bind):V := .agg [.int .i64 x.up,.int .i64 x.pos,.int .i64 x.type]
@[simp] theorem Bind.forget (x:Bind):x.toV.forget=x.toV:=by simp [Bind.toV]
@[simp] theorem Bind.dat (x:Bind):x.toV.dat=true:=by simp [Bind.toV]
def Bind.toVS (l:List Bind):V := .sl 0 (l.map Bind.toV)
@[simp] theorem Bind.forgetS (l:List Bind):(Bind.toVS l).forget=Bind.toVS l:=by simp [Bind.toVS]
@[simp] theorem Bind.datS (l:List Bind):(Bind.toVS l).dat=true:=by simp [Bind.toVS]
def Bind.wt (x:Bind):Nat:=0
structure Data where
 rows:List (List Val)
def Data.toV (x:Data):V := .agg [.sl 0 (x.rows.map Val.toVS)]
@[simp] theorem Data.forget (x:Data):x.toV.forget=x.toV:=by simp [Data.toV]
@[simp] theorem Data.dat (x:Data):x.toV.dat=true:=by simp [Data.toV]
def Data.toVS (l:List Data):V := .sl 0 (l.map Data.toV)
@[simp] theorem Data.forgetS (l:List Data):(Data.toVS l).forget=Data.toVS l:=by simp [Data.toVS]
@[simp] theorem Data.datS (l:List Data):(Data.toVS l).dat=true:=by simp [Data.toVS]
def Data.wt (x:Data):Nat:=slW (slW Val.wt) x.rows
structure Db where
 tables:List Data
def Db.toV (x:Db):V := .agg [.sl 0 (x.tables.map Data.toV)]
@[simp] theorem Db.forget (x:Db):x.toV.forget=x.toV:=by simp [Db.toV]
@[simp] theorem Db.dat (x:Db):x.toV.dat=true:=by simp [Db.toV]
def Db.toVS (l:List Db):V := .sl 0 (l.map Db.toV)
@[simp] theorem Db.forgetS (l:List Db):(Db.toVS l).forget=Db.toVS l:=by simp [Db.toVS]
@[simp] theorem Db.datS (l:List Db):(Db.toVS l).dat=true:=by simp [Db.toVS]
def Db.wt (x:Db):Nat:=slW Data.wt x.tables
structure Token where
 kind:Int
 text:List UInt8
 pos:Int
def Token.toV (x:Token):V := .agg [.int .i64 x.kind,.str x.text,.int .i64 x.pos]
@[simp] theorem Token.forget (x:Token):x.toV.forget=x.toV:=by simp [Token.toV]
@[simp] theorem Token.dat (x:Token):x.toV.dat=true:=by simp [Token.toV]
def Token.toVS (l:List Token):V := .sl 0 (l.map Token.toV)
@[simp] theorem Token.forgetS (l:List Token):(Token.toVS l).forget=Token.toVS l:=by simp [Token.toVS]
@[simp] theorem Token.datS (l:List Token):(Token.toVS l).dat=true:=by simp [Token.toVS]
def Token.wt (x:Token):Nat:=x.text.length
structure Fault where
 code:Int
 pos:Int
def Fault.toV (x:Fault):V := .agg [.int .i64 x.code,.int .i64 x.pos]
@[simp] theorem Fault.forget (x:Fault):x.toV.forget=x.toV:=by simp [Fault.toV]
@[simp] theorem Fault.dat (x:Fault):x.toV.dat=true:=by simp [Fault.toV]
def Fault.toVS (l:List Fault):V := .sl 0 (l.map Fault.toV)
@[simp] theorem Fault.forgetS (l:List Fault):(Fault.toVS l).forget=Fault.toVS l:=by simp [Fault.toVS]
@[simp] theorem Fault.datS (l:List Fault):(Fault.toVS l).dat=true:=by simp [Fault.toVS]
def Fault.wt (x:Fault):Nat:=0
structure RFault where
 code:Int
 name:List UInt8
def RFault.toV (x:RFault):V := .agg [.int .i64 x.code,.str x.name]
@[simp] theorem RFault.forget (x:RFault):x.toV.forget=x.toV:=by simp [RFault.toV]
@[simp] theorem RFault.dat (x:RFault):x.toV.dat=true:=by simp [RFault.toV]
def RFault.toVS (l:List RFault):V := .sl 0 (l.map RFault.toV)
@[simp] theorem RFault.forgetS (l:List RFault):(RFault.toVS l).forget=RFault.toVS l:=by simp [RFault.toVS]
@[simp] theorem RFault.datS (l:List RFault):(RFault.toVS l).dat=true:=by simp [RFault.toVS]
def RFault.wt (x:RFault):Nat:=x.name.length
end Go.Proofs.Ytikghanejpigjaa

namespace Go.Proofs.Ytikghanejpigjaa
open Go
set_option linter.unusedSimpArgs false
set_option linter.unusedVariables false
end Go.Proofs.Ytikghanejpigjaa

namespace Go.Proofs.Ytikghanejpigjaa
open Go
set_option linter.unusedSimpArgs false
set_option linter.unusedVariables false
def ints (l:List Int):V := .sl 0 (l.map iV)
@[simp] theorem ints_dat (l:List Int):(ints l).dat=true:=by simp [ints]
@[simp] theorem ints_forget (l:List Int):(ints l).forget=ints l:=by simp [ints]
def findI {α : Type} (p : α → Bool):List α → Int→Int
 | [],_ => -1
 | x::xs,i=>if p x then i else findI p xs (i+1)
theorem findI_end {α : Type} {p : α → Bool} {xs:List α} {i:Nat} (h:xs.length≤i) (n:Int):findI p (xs.drop i) n = -1:=by rw [List.drop_of_length_le h];rfl
def hits {α : Type} (p : α → Bool) (xs:List α):Nat→List Int
 | 0=>[]
 | i+1=>hits p xs i++(match xs[i]? with | some x=>if p x then [(i:Int)] else [] | none=>[])
theorem hits_succ {α : Type} {p : α → Bool} {xs:List α} {i:Nat} (h:i<xs.length):hits p xs (i+1)=hits p xs i++(if p xs[i] then [(i:Int)] else []):=by
 rw [hits,List.getElem?_eq_getElem h]
def tableP (name:List UInt8) (t:Tab):Bool:=decide (t.name=name)
def colP (name:List UInt8) (t:Col):Bool:=decide (t.name=name)
def Cat.at (c:Cat) (name:List UInt8):Int:=findI (tableP name) c.tables 0
def Tab.at (t:Tab) (name:List UInt8):Int:=findI (colP name) t.cols 0
def starP (qual:List UInt8) (x:Named):Bool:=decide (qual=[]) || decide (x.qual=qual)
def matchP (qual name:List UInt8) (x:Named):Bool:=decide (x.name=name)&&starP qual x
def Scope.star (s:Scope) (qual:List UInt8):List Int:=hits (starP qual) s.names s.names.length
def Scope.matches (s:Scope) (qual name:List UInt8):List Int:=hits (matchP qual name) s.names s.names.length
end Go.Proofs.Ytikghanejpigjaa

namespace Go.Proofs.Ytikghanejpigjaa
open Go
set_option linter.unusedSimpArgs false
set_option linter.unusedVariables false
@[simp] theorem nk_int' (i:IntKind) (n k:Int):nk (.int i n) k=k+1:=by simp only [nk]
@[simp] theorem nk_bool' (b:Bool) (k:Int):nk (.bool b) k=k+1:=by simp only [nk]
@[simp] theorem nk_str' (b:List UInt8) (k:Int):nk (.str b) k=k+1:=by simp only [nk]
section
variable {P:Program} {L:Kn} {s:S} {tt:BT}
theorem AnsL.toStr (ht:tt.ok P) {U T e:TypeId} {u t te:Ty} {x:Operand} {id:Nat} {us:List V} {bs:List UInt8} (hx:opd L x=some (.sl id us)) (hU:tt.get U=some u) (hku:u.kd = .slice e) (hT:tt.get T=some t) (hkt:t.kd = .string)
   (hte:tt.get e=some te) (hke:te.kd = .int .u8) (hsz:Nat.beq te.size 1=true) (hb:vbytes us=some bs):AnsL P (.convert U T x) L s (.str bs) :=
 .of fun σ hσ _ _ _ _ _=>by
   have h1:te.size=1:=Nat.eq_of_beq_eq_true hsz
   simp only [vop,opd_eq hσ hx,vconvert,vtoStr,ht.get hU,ht.get hT,hku,hkt,ht.get hte,hke,h1,if_true,elemsOf,hb,Option.bind_some,Option.map_some]
end
theorem map_ne {α : Type} {f : α → V} {l:List α} (h:¬ l=[]):(l.map f).isEmpty=false:=by cases l <;> simp_all
theorem thw_sl_cells (n i:Nat) (xs:List V):(thw n (.sl i xs)).1.cells=[(thw n (.sl i xs)).1]:=by
 unfold thw
 cases xs.isEmpty <;> rfl
theorem plainL_cons {v:V} {vs:List V} (h1:v.plain=true) (h2:V.plainL vs=true):V.plainL (v::vs)=true:=by simp only [V.plainL,h1,h2,Bool.and_self]
theorem plain_IntS (l:List Int):V.plain (.sl 0 (l.map iV))=true:=plain_map (f:=iV) 1 (fun _=>rfl) (fun _=>rfl) l
theorem plain_StringS (l:List (List UInt8)):V.plain (.sl 0 (l.map sV))=true:=plain_map (f:=sV) 1 (fun _=>rfl) (fun _=>rfl) l
theorem plain_ValueS (l:List Val):V.plain (.sl 0 (l.map Val.toV))=true:=plain_map (f:=Val.toV) 3 (fun x=>(plainL_cons rfl (plainL_cons rfl (plainL_cons rfl rfl)))) (fun _=>rfl) l
theorem plain_ColS (l:List Col):V.plain (.sl 0 (l.map Col.toV))=true:=plain_map (f:=Col.toV) 2 (fun x=>(plainL_cons rfl (plainL_cons rfl rfl))) (fun _=>rfl) l
theorem plain_NamedS (l:List Named):V.plain (.sl 0 (l.map Named.toV))=true:=plain_map (f:=Named.toV) 3 (fun x=>(plainL_cons rfl (plainL_cons rfl (plainL_cons rfl rfl)))) (fun _=>rfl) l
theorem plain_BindS (l:List Bind):V.plain (.sl 0 (l.map Bind.toV))=true:=plain_map (f:=Bind.toV) 3 (fun x=>(plainL_cons rfl (plainL_cons rfl (plainL_cons rfl rfl)))) (fun _=>rfl) l
theorem plain_TokenS (l:List Token):V.plain (.sl 0 (l.map Token.toV))=true:=plain_map (f:=Token.toV) 3 (fun x=>(plainL_cons rfl (plainL_cons rfl (plainL_cons rfl rfl)))) (fun _=>rfl) l
theorem plain_IntSS (l:List (List Int)):V.plain (.sl 0 (l.map ints))=true:=plain_map (f:=ints) 1 (fun x=>plain_IntS x) (fun _=>rfl) l
theorem plain_ValueSS (l:List (List Val)):V.plain (.sl 0 (l.map Val.toVS))=true:=plain_map (f:=Val.toVS) 1 (fun x=>plain_ValueS x) (fun _=>rfl) l
theorem plain_TableS (l:List Tab):V.plain (.sl 0 (l.map Tab.toV))=true:=plain_map (f:=Tab.toV) 2 (fun x=>(plainL_cons rfl (plainL_cons (plain_ColS x.cols) rfl))) (fun _=>rfl) l
theorem plain_DataS (l:List Data):V.plain (.sl 0 (l.map Data.toV))=true:=plain_map (f:=Data.toV) 1 (fun x=>(plainL_cons (plain_ValueSS x.rows) rfl)) (fun _=>rfl) l
theorem plain_ScopeS (l:List Scope):V.plain (.sl 0 (l.map Scope.toV))=true:=plain_map (f:=Scope.toV) 1 (fun x=>(plainL_cons (plain_NamedS x.names) rfl)) (fun _=>rfl) l
end Go.Proofs.Ytikghanejpigjaa

namespace Go.Proofs.Ytikghanejpigjaa
open Go
set_option linter.unusedSimpArgs false
set_option linter.unusedVariables false
def inR (x lo hi:Int):Bool:=decide (lo≤x)&&decide (x≤hi)
def Val.ok (v:Val):Bool :=
 if v.kind=0 then decide (v.num=0)&&decide (v.text=[]) else if v.kind=1 then decide (v.text=[]) else
 if v.kind=2 then decide (v.num=0)&&decide ((v.text.length:Int)≤200) else if v.kind=3 then inR v.num 0 1&&decide (v.text=[]) else false
def Val.fits (v:Val) (ty:Int):Bool:=v.ok&&(decide (v.kind=0) || decide (v.kind=ty))
def fitsAll:List Val→List Int→Bool
 | v::vs,t::ts=>v.fits t&&fitsAll vs ts
 | _,_=>true
def rowFits (row:List Val) (types:List Int):Bool:=decide (row.length=types.length)&&fitsAll row types
end Go.Proofs.Ytikghanejpigjaa

namespace Go.Proofs.Ytikghanejpigjaa
open Go
set_option linter.unusedSimpArgs false
set_option linter.unusedVariables false
end Go.Proofs.Ytikghanejpigjaa
