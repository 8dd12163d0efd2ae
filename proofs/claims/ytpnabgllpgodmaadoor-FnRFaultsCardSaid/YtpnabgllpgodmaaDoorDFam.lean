/-
  The plain types of the laws: their values, weights, and what copies, sizes and comparisons of them do. Printed by a program of our own; no condition.
-/
import Derived.Test.YtpnabgllpgodmaaDoorVTT
import Derived.Test.YtpnabgllpgodmaaDoorVL
import Derived.Test.YtpnabgllpgodmaaDoorVRow
namespace Go.Proofs.YtpnabgllpgodmaaDoor
open Go
set_option linter.unusedSimpArgs false
set_option linter.unusedVariables false

def sumW {α : Type} (f : α → Nat) (l : List α) : Nat := (l.map f).sum
def slW {α : Type} (f : α → Nat) (l : List α) : Nat := l.length + sumW f l
theorem sumW_take {α : Type} {f : α → Nat} {l : List α} {i : Nat} (h : i < l.length) : sumW f (l.take (i + 1)) = sumW f (l.take i) + f l[i] := by
  unfold sumW
  rw [List.take_succ_eq_append_getElem h, List.map_append, List.sum_append]
  rfl
theorem sumW_take_le {α : Type} (f : α → Nat) (l : List α) (i : Nat) : sumW f (l.take i) ≤ sumW f l := by
  unfold sumW
  conv => rhs; rw [← List.take_append_drop i l]
  rw [List.map_append, List.sum_append]
  omega
theorem sumW_all {α : Type} {f : α → Nat} {l : List α} {i : Nat} (h : l.length ≤ i) : sumW f (l.take i) = sumW f l := by rw [List.take_of_length_le h]
theorem sumW_mem {α : Type} {f : α → Nat} {l : List α} {i : Nat} (h : i < l.length) : f l[i] ≤ sumW f l := by
  have h1 := sumW_take (f := f) h
  have h2 := sumW_take_le f l (i + 1)
  omega
theorem len_slW {α : Type} (f : α → Nat) (l : List α) : l.length ≤ slW f l := by unfold slW; omega
theorem mem_slW {α : Type} {f : α → Nat} {l : List α} {i : Nat} (h : i < l.length) : f l[i] ≤ slW f l := by have := sumW_mem (f := f) h; unfold slW; omega
theorem len_max : maxLen ≤ 9223372036854775807 := by unfold maxLen; omega
theorem list_has {α : Type} {f : α → V} {us : List V} (h : ∀ u ∈ us, ∃ x, u.forget = f x) : ∃ xs : List α, us.map V.forget = xs.map f := by
  induction us with
  | nil => exact ⟨[], rfl⟩
  | cons u us ih =>
    obtain ⟨x, hx⟩ := h u (by simp)
    obtain ⟨xs, hxs⟩ := ih fun v hv => h v (by simp [hv])
    exact ⟨x :: xs, by simp [hx, hxs]⟩
theorem slice_has {α : Type} {f : α → V} {P : Program} {n : Nat} {t e : TypeId} {v : V} (ht : P.underlying t = some (.slice e)) (he : ∀ n u, Has P n e u → ∃ x, u.forget = f x) (h : Has P n t v) : ∃ xs : List α, v.forget = .sl 0 (xs.map f) := by
  rcases Has.slice ht h with rfl | ⟨m, us, rfl, hu⟩
  · exact ⟨[], by simp⟩
  · obtain ⟨xs, hxs⟩ := list_has fun u hm => he m u (hu u hm)
    exact ⟨xs, by simp only [V.forget, V.forgetL_eq, hxs]⟩
theorem int_has {P : Program} {n : Nat} {t : TypeId} {v : V} (ht : P.underlying t = some (.int .i64)) (h : Has P n t v) : ∃ a, v = .int .i64 a := Has.int ht h

structure Val where
  kind : Int
  num : Int
  text : List UInt8
def Val.toV (x : Val) : V := .agg [.int .i64 x.kind, .int .i64 x.num, .str x.text]
@[simp] theorem Val.forget (x : Val) : x.toV.forget = x.toV := by simp [Val.toV]
@[simp] theorem Val.dat (x : Val) : x.toV.dat = true := by simp [Val.toV]
def Val.toVS (l : List Val) : V := .sl 0 (l.map Val.toV)
@[simp] theorem Val.forgetS (l : List Val) : (Val.toVS l).forget = Val.toVS l := by simp [Val.toVS]
@[simp] theorem Val.datS (l : List Val) : (Val.toVS l).dat = true := by simp [Val.toVS]
def Val.wt (x : Val) : Nat := x.text.length

structure Col where
  name : List UInt8
  type : Int
def Col.toV (x : Col) : V := .agg [.str x.name, .int .i64 x.type]
@[simp] theorem Col.forget (x : Col) : x.toV.forget = x.toV := by simp [Col.toV]
@[simp] theorem Col.dat (x : Col) : x.toV.dat = true := by simp [Col.toV]
def Col.toVS (l : List Col) : V := .sl 0 (l.map Col.toV)
@[simp] theorem Col.forgetS (l : List Col) : (Col.toVS l).forget = Col.toVS l := by simp [Col.toVS]
@[simp] theorem Col.datS (l : List Col) : (Col.toVS l).dat = true := by simp [Col.toVS]
def Col.wt (x : Col) : Nat := x.name.length

structure Tab where
  name : List UInt8
  cols : List Col
def Tab.toV (x : Tab) : V := .agg [.str x.name, .sl 0 (x.cols.map Col.toV)]
@[simp] theorem Tab.forget (x : Tab) : x.toV.forget = x.toV := by simp [Tab.toV]
@[simp] theorem Tab.dat (x : Tab) : x.toV.dat = true := by simp [Tab.toV]
def Tab.toVS (l : List Tab) : V := .sl 0 (l.map Tab.toV)
@[simp] theorem Tab.forgetS (l : List Tab) : (Tab.toVS l).forget = Tab.toVS l := by simp [Tab.toVS]
@[simp] theorem Tab.datS (l : List Tab) : (Tab.toVS l).dat = true := by simp [Tab.toVS]
def Tab.wt (x : Tab) : Nat := x.name.length + slW Col.wt x.cols

structure Cat where
  tables : List Tab
def Cat.toV (x : Cat) : V := .agg [.sl 0 (x.tables.map Tab.toV)]
@[simp] theorem Cat.forget (x : Cat) : x.toV.forget = x.toV := by simp [Cat.toV]
@[simp] theorem Cat.dat (x : Cat) : x.toV.dat = true := by simp [Cat.toV]
def Cat.toVS (l : List Cat) : V := .sl 0 (l.map Cat.toV)
@[simp] theorem Cat.forgetS (l : List Cat) : (Cat.toVS l).forget = Cat.toVS l := by simp [Cat.toVS]
@[simp] theorem Cat.datS (l : List Cat) : (Cat.toVS l).dat = true := by simp [Cat.toVS]
def Cat.wt (x : Cat) : Nat := slW Tab.wt x.tables

structure Named where
  qual : List UInt8
  name : List UInt8
  type : Int
def Named.toV (x : Named) : V := .agg [.str x.qual, .str x.name, .int .i64 x.type]
@[simp] theorem Named.forget (x : Named) : x.toV.forget = x.toV := by simp [Named.toV]
@[simp] theorem Named.dat (x : Named) : x.toV.dat = true := by simp [Named.toV]
def Named.toVS (l : List Named) : V := .sl 0 (l.map Named.toV)
@[simp] theorem Named.forgetS (l : List Named) : (Named.toVS l).forget = Named.toVS l := by simp [Named.toVS]
@[simp] theorem Named.datS (l : List Named) : (Named.toVS l).dat = true := by simp [Named.toVS]
def Named.wt (x : Named) : Nat := x.qual.length + x.name.length

structure Scope where
  names : List Named
def Scope.toV (x : Scope) : V := .agg [.sl 0 (x.names.map Named.toV)]
@[simp] theorem Scope.forget (x : Scope) : x.toV.forget = x.toV := by simp [Scope.toV]
@[simp] theorem Scope.dat (x : Scope) : x.toV.dat = true := by simp [Scope.toV]
def Scope.toVS (l : List Scope) : V := .sl 0 (l.map Scope.toV)
@[simp] theorem Scope.forgetS (l : List Scope) : (Scope.toVS l).forget = Scope.toVS l := by simp [Scope.toVS]
@[simp] theorem Scope.datS (l : List Scope) : (Scope.toVS l).dat = true := by simp [Scope.toVS]
def Scope.wt (x : Scope) : Nat := slW Named.wt x.names

structure Bind where
  up : Int
  pos : Int
  type : Int
def Bind.toV (x : Bind) : V := .agg [.int .i64 x.up, .int .i64 x.pos, .int .i64 x.type]
@[simp] theorem Bind.forget (x : Bind) : x.toV.forget = x.toV := by simp [Bind.toV]
@[simp] theorem Bind.dat (x : Bind) : x.toV.dat = true := by simp [Bind.toV]
def Bind.toVS (l : List Bind) : V := .sl 0 (l.map Bind.toV)
@[simp] theorem Bind.forgetS (l : List Bind) : (Bind.toVS l).forget = Bind.toVS l := by simp [Bind.toVS]
@[simp] theorem Bind.datS (l : List Bind) : (Bind.toVS l).dat = true := by simp [Bind.toVS]
def Bind.wt (x : Bind) : Nat := 0

structure Data where
  rows : List (List Val)
def Data.toV (x : Data) : V := .agg [.sl 0 (x.rows.map Val.toVS)]
@[simp] theorem Data.forget (x : Data) : x.toV.forget = x.toV := by simp [Data.toV]
@[simp] theorem Data.dat (x : Data) : x.toV.dat = true := by simp [Data.toV]
def Data.toVS (l : List Data) : V := .sl 0 (l.map Data.toV)
@[simp] theorem Data.forgetS (l : List Data) : (Data.toVS l).forget = Data.toVS l := by simp [Data.toVS]
@[simp] theorem Data.datS (l : List Data) : (Data.toVS l).dat = true := by simp [Data.toVS]
def Data.wt (x : Data) : Nat := slW (slW Val.wt) x.rows

structure Db where
  tables : List Data
def Db.toV (x : Db) : V := .agg [.sl 0 (x.tables.map Data.toV)]
@[simp] theorem Db.forget (x : Db) : x.toV.forget = x.toV := by simp [Db.toV]
@[simp] theorem Db.dat (x : Db) : x.toV.dat = true := by simp [Db.toV]
def Db.toVS (l : List Db) : V := .sl 0 (l.map Db.toV)
@[simp] theorem Db.forgetS (l : List Db) : (Db.toVS l).forget = Db.toVS l := by simp [Db.toVS]
@[simp] theorem Db.datS (l : List Db) : (Db.toVS l).dat = true := by simp [Db.toVS]
def Db.wt (x : Db) : Nat := slW Data.wt x.tables

structure Token where
  kind : Int
  text : List UInt8
  pos : Int
def Token.toV (x : Token) : V := .agg [.int .i64 x.kind, .str x.text, .int .i64 x.pos]
@[simp] theorem Token.forget (x : Token) : x.toV.forget = x.toV := by simp [Token.toV]
@[simp] theorem Token.dat (x : Token) : x.toV.dat = true := by simp [Token.toV]
def Token.toVS (l : List Token) : V := .sl 0 (l.map Token.toV)
@[simp] theorem Token.forgetS (l : List Token) : (Token.toVS l).forget = Token.toVS l := by simp [Token.toVS]
@[simp] theorem Token.datS (l : List Token) : (Token.toVS l).dat = true := by simp [Token.toVS]
def Token.wt (x : Token) : Nat := x.text.length

structure Fault where
  code : Int
  pos : Int
def Fault.toV (x : Fault) : V := .agg [.int .i64 x.code, .int .i64 x.pos]
@[simp] theorem Fault.forget (x : Fault) : x.toV.forget = x.toV := by simp [Fault.toV]
@[simp] theorem Fault.dat (x : Fault) : x.toV.dat = true := by simp [Fault.toV]
def Fault.toVS (l : List Fault) : V := .sl 0 (l.map Fault.toV)
@[simp] theorem Fault.forgetS (l : List Fault) : (Fault.toVS l).forget = Fault.toVS l := by simp [Fault.toVS]
@[simp] theorem Fault.datS (l : List Fault) : (Fault.toVS l).dat = true := by simp [Fault.toVS]
def Fault.wt (x : Fault) : Nat := 0

structure RFault where
  code : Int
  name : List UInt8
def RFault.toV (x : RFault) : V := .agg [.int .i64 x.code, .str x.name]
@[simp] theorem RFault.forget (x : RFault) : x.toV.forget = x.toV := by simp [RFault.toV]
@[simp] theorem RFault.dat (x : RFault) : x.toV.dat = true := by simp [RFault.toV]
def RFault.toVS (l : List RFault) : V := .sl 0 (l.map RFault.toV)
@[simp] theorem RFault.forgetS (l : List RFault) : (RFault.toVS l).forget = RFault.toVS l := by simp [RFault.toVS]
@[simp] theorem RFault.datS (l : List RFault) : (RFault.toVS l).dat = true := by simp [RFault.toVS]
def RFault.wt (x : RFault) : Nat := x.name.length

end Go.Proofs.YtpnabgllpgodmaaDoor
