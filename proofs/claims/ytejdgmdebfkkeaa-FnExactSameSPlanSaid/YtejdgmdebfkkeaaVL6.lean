/-
  Tests of what stands next, so that a walk tries few rules. Own work; no condition.
-/
import Derived.Test.YtejdgmdebfkkeaaVL5
namespace Go.Proofs.Ytejdgmdebfkkeaa
open Go

variable {P : Program} {N : Nat} {ops : Array Oper} {l : List Oper} {K : Kn → S → Prop} {L : Kn} {s : S} {xs ys : List Own} {tt : BT} {F : List Nat} {A : List (List Nat)} {pre rest : List Nat}
variable {dst : Option Nat} {d : Nat} {op : Op} {ty : TypeId} {p : String} {a : Array Edge} {Q : Exit → Kn → S → Prop} {c : Code} {v : V}

theorem kOps (h : LOps P N ops l K L s) : LOps P N ops l K L s := h
theorem kWL (h : WL P N c Q L s) : WL P N c Q L s := h
theorem kDr (h : LDr P N ops F A K pre rest L s) : LDr P N ops F A K pre rest L s := h
theorem kCond {x : Operand} {e : Code} (h : WL P N (.cond x c e) Q L s) : WL P N (.cond x c e) Q L s := h
theorem kG {g : Nat × Bool} (h : LOps P N ops (⟨dst, op, ty, p, a, some g⟩ :: l) K L s) : LOps P N ops (⟨dst, op, ty, p, a, some g⟩ :: l) K L s := h
theorem kN (h : LOps P N ops (⟨none, op, ty, p, a, none⟩ :: l) K L s) : LOps P N ops (⟨none, op, ty, p, a, none⟩ :: l) K L s := h
theorem kA (h : LOps P N ops (⟨some d, op, ty, p, a, none⟩ :: l) K L s) : LOps P N ops (⟨some d, op, ty, p, a, none⟩ :: l) K L s := h
theorem kStore {T : TypeId} {x y : Operand} (h : LOps P N ops (⟨none, .store T x y, ty, p, a, none⟩ :: l) K L s) : LOps P N ops (⟨none, .store T x y, ty, p, a, none⟩ :: l) K L s := h
theorem kBox {T : TypeId} {x : Operand} (h : LOps P N ops (⟨some d, .box T x, ty, p, a, none⟩ :: l) K L s) : LOps P N ops (⟨some d, .box T x, ty, p, a, none⟩ :: l) K L s := h
theorem kAlloc {T : TypeId} (h : LOps P N ops (⟨some d, .alloc T, ty, p, a, none⟩ :: l) K L s) : LOps P N ops (⟨some d, .alloc T, ty, p, a, none⟩ :: l) K L s := h
theorem kBsl {T : TypeId} {n : Nat} {ps : Array (Nat × Operand)} (h : LOps P N ops (⟨some d, .buildSlice T n ps, ty, p, a, none⟩ :: l) K L s) : LOps P N ops (⟨some d, .buildSlice T n ps, ty, p, a, none⟩ :: l) K L s := h
theorem kMake {T : TypeId} {x y : Operand} (h : LOps P N ops (⟨some d, .makeSlice T x y, ty, p, a, none⟩ :: l) K L s) : LOps P N ops (⟨some d, .makeSlice T x y, ty, p, a, none⟩ :: l) K L s := h
theorem kApp {x y : Operand} {B : Array TypeId} (h : LOps P N ops (⟨some d, .call ⟨.builtin .append, #[x, y], B⟩, ty, p, a, none⟩ :: l) K L s) : LOps P N ops (⟨some d, .call ⟨.builtin .append, #[x, y], B⟩, ty, p, a, none⟩ :: l) K L s := h
theorem kLoad {T : TypeId} {x : Operand} (h : LOps P N ops (⟨some d, .load T x, ty, p, a, none⟩ :: l) K L s) : LOps P N ops (⟨some d, .load T x, ty, p, a, none⟩ :: l) K L s := h
theorem kDLoad {T : TypeId} {x : Operand} {i : Nat} {g : Option (Nat × Bool)} (_ : nthO ops.toList i = some ⟨some d, .load T x, ty, p, a, g⟩) (h : LDr P N ops F A K pre (i :: rest) L s) : LDr P N ops F A K pre (i :: rest) L s := h
theorem kLen {x : Operand} {B : Array TypeId} (h : LOps P N ops (⟨some d, .call ⟨.builtin .len, #[x], B⟩, ty, p, a, none⟩ :: l) K L s) : LOps P N ops (⟨some d, .call ⟨.builtin .len, #[x], B⟩, ty, p, a, none⟩ :: l) K L s := h
theorem kDLen {x : Operand} {B : Array TypeId} {i : Nat} {g : Option (Nat × Bool)} (_ : nthO ops.toList i = some ⟨some d, .call ⟨.builtin .len, #[x], B⟩, ty, p, a, g⟩) (h : LDr P N ops F A K pre (i :: rest) L s) : LDr P N ops F A K pre (i :: rest) L s := h
theorem kBin {o : BinOp} {T U : TypeId} {x y : Operand} (h : LOps P N ops (⟨some d, .binOp o T x y U, ty, p, a, none⟩ :: l) K L s) : LOps P N ops (⟨some d, .binOp o T x y U, ty, p, a, none⟩ :: l) K L s := h
theorem kDBin {o : BinOp} {T U : TypeId} {x y : Operand} {i : Nat} {g : Option (Nat × Bool)} (_ : nthO ops.toList i = some ⟨some d, .binOp o T x y U, ty, p, a, g⟩) (h : LDr P N ops F A K pre (i :: rest) L s) : LDr P N ops F A K pre (i :: rest) L s := h
theorem kIdx {T : TypeId} {x i : Operand} (h : LOps P N ops (⟨some d, .indexAddr T x i, ty, p, a, none⟩ :: l) K L s) : LOps P N ops (⟨some d, .indexAddr T x i, ty, p, a, none⟩ :: l) K L s := h
theorem kDIdx {T : TypeId} {x y : Operand} {i : Nat} {g : Option (Nat × Bool)} (_ : nthO ops.toList i = some ⟨some d, .indexAddr T x y, ty, p, a, g⟩) (h : LDr P N ops F A K pre (i :: rest) L s) : LDr P N ops F A K pre (i :: rest) L s := h
theorem kSidx {T : TypeId} {x i : Operand} (h : LOps P N ops (⟨some d, .index T x i, ty, p, a, none⟩ :: l) K L s) : LOps P N ops (⟨some d, .index T x i, ty, p, a, none⟩ :: l) K L s := h
theorem kDSidx {T : TypeId} {x y : Operand} {i : Nat} {g : Option (Nat × Bool)} (_ : nthO ops.toList i = some ⟨some d, .index T x y, ty, p, a, g⟩) (h : LDr P N ops F A K pre (i :: rest) L s) : LDr P N ops F A K pre (i :: rest) L s := h
theorem kSlc {T : TypeId} {x : Operand} {lo hi mx : Option Operand} (h : LOps P N ops (⟨some d, .slice T x lo hi mx, ty, p, a, none⟩ :: l) K L s) : LOps P N ops (⟨some d, .slice T x lo hi mx, ty, p, a, none⟩ :: l) K L s := h
theorem kDSlc {T : TypeId} {x : Operand} {lo hi mx : Option Operand} {i : Nat} {g : Option (Nat × Bool)} (_ : nthO ops.toList i = some ⟨some d, .slice T x lo hi mx, ty, p, a, g⟩) (h : LDr P N ops F A K pre (i :: rest) L s) : LDr P N ops F A K pre (i :: rest) L s := h
theorem kCall {f : Operand} {args : Array Operand} {B : Array TypeId} (h : LOps P N ops (⟨some d, .call ⟨.value f, args, B⟩, ty, p, a, none⟩ :: l) K L s) : LOps P N ops (⟨some d, .call ⟨.value f, args, B⟩, ty, p, a, none⟩ :: l) K L s := h
theorem kDCall {f : Operand} {args : Array Operand} {B : Array TypeId} {i : Nat} {g : Option (Nat × Bool)} (_ : nthO ops.toList i = some ⟨some d, .call ⟨.value f, args, B⟩, ty, p, a, g⟩) (h : LDr P N ops F A K pre (i :: rest) L s) : LDr P N ops F A K pre (i :: rest) L s := h

theorem kCallN (g : FuncId) {args : Array Operand} {B : Array TypeId} (h : LOps P N ops (⟨some d, .call ⟨.value (.func g), args, B⟩, ty, p, a, none⟩ :: l) K L s) : LOps P N ops (⟨some d, .call ⟨.value (.func g), args, B⟩, ty, p, a, none⟩ :: l) K L s := h
theorem kDCallN (g' : FuncId) {args : Array Operand} {B : Array TypeId} {i : Nat} {g : Option (Nat × Bool)} (_ : nthO ops.toList i = some ⟨some d, .call ⟨.value (.func g'), args, B⟩, ty, p, a, g⟩) (h : LDr P N ops F A K pre (i :: rest) L s) : LDr P N ops F A K pre (i :: rest) L s := h

/-- A guard that a fact decides. -/
theorem LOps.gD {o : Oper} {j e : Nat} {w b : Bool} (c : Bool) (_ : o.guard = some (j, w)) (_ : gslot ops.toList j = some e) (hb : lk L e = some (.bool b)) (hc : b = c) (h : LOps P N ops (o :: l) K ((e, .bool c) :: L) s) : LOps P N ops (o :: l) K L s := by
  subst hc
  exact ⟨fun hd σ hσ => h.run hd σ (hσ.shadow hb)⟩
theorem LDr.gD {i j e : Nat} {w b : Bool} {o : Oper} (c : Bool) (_ : nthO ops.toList i = some o) (_ : o.guard = some (j, w)) (_ : gslot ops.toList j = some e) (hb : lk L e = some (.bool b)) (hc : b = c)
    (h : LDr P N ops F A K pre (i :: rest) ((e, .bool c) :: L) s) : LDr P N ops F A K pre (i :: rest) L s := by
  subst hc
  exact ⟨fun σ hσ => h.run σ (hσ.shadow hb)⟩

end Go.Proofs.Ytejdgmdebfkkeaa
