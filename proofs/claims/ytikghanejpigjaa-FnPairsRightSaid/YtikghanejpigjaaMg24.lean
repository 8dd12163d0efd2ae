/-
  The plain types of the laws, continued. Printed by a program of our own; no condition.
  Tables, columns and scopes looked up by name, of the program and of the reference.
  What marks data and what finds it marked.
  Values and whether a row's values fit types, of the program and of the reference.
  Copies as results of new memory alone. Printed by a program of our own; no condition.
  Own work; no condition.
-/
import Derived.Test.YtikghanejpigjaaMg18
import Derived.Test.YtikghanejpigjaaMg10
namespace Go.Proofs.Ytikghanejpigjaa
open Go
set_option linter.unusedSimpArgs false
set_option linter.unusedVariables false
end Go.Proofs.Ytikghanejpigjaa

namespace Go.Proofs.Ytikghanejpigjaa
open Go
set_option linter.unusedSimpArgs false
set_option linter.unusedVariables false
def ints (l:List Int):V := .sl 0 (l.map iV)
@[simp] theorem ints_dat (l:List Int):(ints l).dat=true:=by simp [ints]
@[simp] theorem ints_forget (l:List Int):(ints l).forget=ints l:=by simp [ints]
def findI {α : Type} (p : α → Bool):List α → Int→Int
 | [],_ => -1
 | x::xs,i=>if p x then i else findI p xs (i+1)
theorem findI_end {α : Type} {p : α → Bool} {xs:List α} {i:Nat} (h:xs.length≤i) (n:Int):findI p (xs.drop i) n = -1:=by rw [List.drop_of_length_le h];rfl
def hits {α : Type} (p : α → Bool) (xs:List α):Nat→List Int
 | 0=>[]
 | i+1=>hits p xs i++(match xs[i]? with | some x=>if p x then [(i:Int)] else [] | none=>[])
theorem hits_succ {α : Type} {p : α → Bool} {xs:List α} {i:Nat} (h:i<xs.length):hits p xs (i+1)=hits p xs i++(if p xs[i] then [(i:Int)] else []):=by
 rw [hits,List.getElem?_eq_getElem h]
def tableP (name:List UInt8) (t:Tab):Bool:=decide (t.name=name)
def colP (name:List UInt8) (t:Col):Bool:=decide (t.name=name)
def Cat.at (c:Cat) (name:List UInt8):Int:=findI (tableP name) c.tables 0
def Tab.at (t:Tab) (name:List UInt8):Int:=findI (colP name) t.cols 0
def starP (qual:List UInt8) (x:Named):Bool:=decide (qual=[]) || decide (x.qual=qual)
def matchP (qual name:List UInt8) (x:Named):Bool:=decide (x.name=name)&&starP qual x
def Scope.star (s:Scope) (qual:List UInt8):List Int:=hits (starP qual) s.names s.names.length
def Scope.matches (s:Scope) (qual name:List UInt8):List Int:=hits (matchP qual name) s.names s.names.length
end Go.Proofs.Ytikghanejpigjaa

namespace Go.Proofs.Ytikghanejpigjaa
open Go
set_option linter.unusedSimpArgs false
set_option linter.unusedVariables false
@[simp] theorem nk_int' (i:IntKind) (n k:Int):nk (.int i n) k=k+1:=by simp only [nk]
@[simp] theorem nk_bool' (b:Bool) (k:Int):nk (.bool b) k=k+1:=by simp only [nk]
@[simp] theorem nk_str' (b:List UInt8) (k:Int):nk (.str b) k=k+1:=by simp only [nk]
section
variable {P:Program} {L:Kn} {s:S} {tt:BT}
end
theorem map_ne {α : Type} {f : α → V} {l:List α} (h:¬ l=[]):(l.map f).isEmpty=false:=by cases l <;> simp_all
theorem thw_sl_cells (n i:Nat) (xs:List V):(thw n (.sl i xs)).1.cells=[(thw n (.sl i xs)).1]:=by
 unfold thw
 cases xs.isEmpty <;> rfl
theorem plainL_cons {v:V} {vs:List V} (h1:v.plain=true) (h2:V.plainL vs=true):V.plainL (v::vs)=true:=by simp only [V.plainL,h1,h2,Bool.and_self]
theorem plain_IntS (l:List Int):V.plain (.sl 0 (l.map iV))=true:=plain_map (f:=iV) 1 (fun _=>rfl) (fun _=>rfl) l
theorem plain_StringS (l:List (List UInt8)):V.plain (.sl 0 (l.map sV))=true:=plain_map (f:=sV) 1 (fun _=>rfl) (fun _=>rfl) l
theorem plain_ValueS (l:List Val):V.plain (.sl 0 (l.map Val.toV))=true:=plain_map (f:=Val.toV) 3 (fun x=>(plainL_cons rfl (plainL_cons rfl (plainL_cons rfl rfl)))) (fun _=>rfl) l
theorem plain_ColS (l:List Col):V.plain (.sl 0 (l.map Col.toV))=true:=plain_map (f:=Col.toV) 2 (fun x=>(plainL_cons rfl (plainL_cons rfl rfl))) (fun _=>rfl) l
theorem plain_NamedS (l:List Named):V.plain (.sl 0 (l.map Named.toV))=true:=plain_map (f:=Named.toV) 3 (fun x=>(plainL_cons rfl (plainL_cons rfl (plainL_cons rfl rfl)))) (fun _=>rfl) l
theorem plain_BindS (l:List Bind):V.plain (.sl 0 (l.map Bind.toV))=true:=plain_map (f:=Bind.toV) 3 (fun x=>(plainL_cons rfl (plainL_cons rfl (plainL_cons rfl rfl)))) (fun _=>rfl) l
theorem plain_TokenS (l:List Token):V.plain (.sl 0 (l.map Token.toV))=true:=plain_map (f:=Token.toV) 3 (fun x=>(plainL_cons rfl (plainL_cons rfl (plainL_cons rfl rfl)))) (fun _=>rfl) l
theorem plain_IntSS (l:List (List Int)):V.plain (.sl 0 (l.map ints))=true:=plain_map (f:=ints) 1 (fun x=>plain_IntS x) (fun _=>rfl) l
theorem plain_ValueSS (l:List (List Val)):V.plain (.sl 0 (l.map Val.toVS))=true:=plain_map (f:=Val.toVS) 1 (fun x=>plain_ValueS x) (fun _=>rfl) l
theorem plain_TableS (l:List Tab):V.plain (.sl 0 (l.map Tab.toV))=true:=plain_map (f:=Tab.toV) 2 (fun x=>(plainL_cons rfl (plainL_cons (plain_ColS x.cols) rfl))) (fun _=>rfl) l
theorem plain_DataS (l:List Data):V.plain (.sl 0 (l.map Data.toV))=true:=plain_map (f:=Data.toV) 1 (fun x=>(plainL_cons (plain_ValueSS x.rows) rfl)) (fun _=>rfl) l
theorem plain_ScopeS (l:List Scope):V.plain (.sl 0 (l.map Scope.toV))=true:=plain_map (f:=Scope.toV) 1 (fun x=>(plainL_cons (plain_NamedS x.names) rfl)) (fun _=>rfl) l
end Go.Proofs.Ytikghanejpigjaa

namespace Go.Proofs.Ytikghanejpigjaa
open Go
set_option linter.unusedSimpArgs false
set_option linter.unusedVariables false
def inR (x lo hi:Int):Bool:=decide (lo≤x)&&decide (x≤hi)
def Val.ok (v:Val):Bool :=
 if v.kind=0 then decide (v.num=0)&&decide (v.text=[]) else if v.kind=1 then decide (v.text=[]) else
 if v.kind=2 then decide (v.num=0)&&decide ((v.text.length:Int)≤200) else if v.kind=3 then inR v.num 0 1&&decide (v.text=[]) else false
def Val.fits (v:Val) (ty:Int):Bool:=v.ok&&(decide (v.kind=0) || decide (v.kind=ty))
def fitsAll:List Val→List Int→Bool
 | v::vs,t::ts=>v.fits t&&fitsAll vs ts
 | _,_=>true
def rowFits (row:List Val) (types:List Int):Bool:=decide (row.length=types.length)&&fitsAll row types
end Go.Proofs.Ytikghanejpigjaa

namespace Go.Proofs.Ytikghanejpigjaa
open Go
set_option linter.unusedSimpArgs false
set_option linter.unusedVariables false
end Go.Proofs.Ytikghanejpigjaa
