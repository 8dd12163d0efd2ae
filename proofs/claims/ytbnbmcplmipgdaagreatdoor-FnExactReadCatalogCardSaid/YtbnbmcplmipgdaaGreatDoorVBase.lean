/-
  The value level: values that carry what a slice holds inside themselves, and what it means that a value of the model represents one of them. Own work; no condition.
-/
import Derived.ProofKit
import Derived.WalkKit
namespace Go.Proofs.YtbnbmcplmipgdaaGreatDoor
open Go
/-- What is known of a slice's capacity: nothing; that it is the length; what it is. -/
inductive Cp where
  | un
  | eq
  | is (c : Nat)
def Cp.ok : Cp → Nat → Nat → Prop
  | .un, _, _ => True
  | .eq, cap, len => cap = len
  | .is c, cap, _ => cap = c
/-- Values of the value level. 'sl id xs': a slice with its elements (id 0: not to be appended to). 'eptr cs k': a pointer to cell k of a row that nobody writes. 'ptr l k': a pointer to cell k of variable l. 'slm x l k n': a slice of the variable l (x: its capacity is its length). -/
inductive V where
  | int (k : IntKind) (n : Int)
  | bool (b : Bool)
  | str (s : List UInt8)
  | agg (cs : List V)
  | ptr (l off : Nat)
  | eptr (cs : List V) (off : Nat)
  | nilp
  | sl (id : Nat) (xs : List V)
  | zsl
  | nilsl
  | slm (ex : Cp) (l off len : Nat)
  | fn (f : Nat) (caps : List V)
  | tup (vs : List V)
  | und
  | raw (v : Value)
def V.cells : V → List V
  | .agg cs => cs
  | .raw v => v.cells.toList.map .raw
  | v => [v]
def V.flat (xs : List V) : List V := xs.flatMap V.cells
/-- A value of one cell. -/
def V.one : V → Bool
  | .agg _ | .tup _ | .und | .raw _ => false
  | _ => true
structure Fam where
  len : Nat
  blk : Option Nat
  cap : Nat
  sz : Nat
/-- What ties the value level to a world: 'imm': cells that stay as they are for good; 'loc': the blocks of the variables; 'fam': where each slice lies that may be appended to. -/
structure Env where
  w : World
  imm : Nat → Nat → Prop
  loc : Nat → Option Nat
  fam : Nat → Option Fam
def Seg (E : Env) (g off : Nat) (vals : List Value) : Prop :=
  ∀ j v, vals[j]? = some v → E.imm g (off + j) ∧ E.w.cell? ⟨g, off + j, none⟩ = some v
def FamOk (E : Env) (id n g off cap sz : Nat) : Prop :=
  id = 0 ∨ ∃ F, E.fam id = some F ∧ n ≤ F.len ∧ (n = F.len → F.blk = some g ∧ off = 0 ∧ cap = F.cap ∧ sz = F.sz)
def FamOkZ (E : Env) (id : Nat) : Prop :=
  id = 0 ∨ ∃ F, E.fam id = some F ∧ (F.len = 0 → F.blk = none)
mutual
inductive RepV (E : Env) : V → Value → Prop
  | int {k n} : k.min ≤ n → n ≤ k.max → RepV E (.int k n) (.int k n)
  | bool {b} : RepV E (.bool b) (.bool b)
  | str {s} : s.length ≤ maxLen → RepV E (.str s) (.string ⟨s.toArray⟩)
  | agg {cs vals} : RepL E cs vals → RepV E (.agg cs) (.agg vals.toArray)
  | ptr {l off g} : E.loc l = some g → RepV E (.ptr l off) (.pointer (some ⟨g, off, none⟩))
  | eptr {cs vals g off k} : RepL E cs vals → Seg E g off vals → RepV E (.eptr cs k) (.pointer (some ⟨g, off + k, none⟩))
  | nilp : RepV E .nilp (.pointer none)
  | sl {id xs vals g off cap sz} : (∀ x ∈ xs, x.cells.length = sz) → xs.length ≤ cap → cap ≤ maxLen → RepL E (V.flat xs) vals → Seg E g off vals →
      FamOk E id xs.length g off cap sz → RepV E (.sl id xs) (.slice (some ⟨g, off, none⟩) xs.length cap)
  | slz {id a} : FamOkZ E id → RepV E (.sl id []) (.slice a 0 0)
  | zsl {a} : RepV E .zsl (.slice a 0 0)
  | nilsl : RepV E .nilsl (.slice none 0 0)
  | slm {ex l off len cap g} : E.loc l = some g → len ≤ cap → cap ≤ maxLen → ex.ok cap len → RepV E (.slm ex l off len) (.slice (some ⟨g, off, none⟩) len cap)
  | slm0 {a} : RepV E (.slm (.is 0) 0 0 0) (.slice a 0 0)
  | fn {f caps vals} : RepL E caps vals → RepV E (.fn f caps) (.func (.func f) #[] vals.toArray)
  | tup {vs vals} : RepL E vs vals → RepV E (.tup vs) (.tuple vals.toArray)
  | und : RepV E .und undef
  | raw {val} : RepV E (.raw val) val
inductive RepL (E : Env) : List V → List Value → Prop
  | nil : RepL E [] []
  | cons {v vs val vals} : RepV E v val → RepL E vs vals → RepL E (v :: vs) (val :: vals)
end
/-- What holds of the first stays in the second. -/
structure Evolve (E E' : Env) : Prop where
  imm : ∀ g o, E.imm g o → E'.imm g o
  cell : ∀ g o, E.imm g o → E'.w.cell? ⟨g, o, none⟩ = E.w.cell? ⟨g, o, none⟩
  loc : ∀ l g, E.loc l = some g → E'.loc l = some g
  fam : ∀ id F, E.fam id = some F → ∃ F', E'.fam id = some F' ∧ F.len ≤ F'.len ∧ (F.len = F'.len → F' = F)
theorem Evolve.refl (E : Env) : Evolve E E := ⟨fun _ _ h => h, fun _ _ _ => rfl, fun _ _ h => h, fun _ F h => ⟨F, h, Nat.le_refl _, fun _ => rfl⟩⟩
theorem Evolve.trans {A B C : Env} (h : Evolve A B) (k : Evolve B C) : Evolve A C := by
  refine ⟨fun g o i => k.imm g o (h.imm g o i), fun g o i => (k.cell g o (h.imm g o i)).trans (h.cell g o i), fun l g i => k.loc l g (h.loc l g i), fun id F i => ?_⟩
  obtain ⟨F1, h1, l1, e1⟩ := h.fam id F i
  obtain ⟨F2, h2, l2, e2⟩ := k.fam id F1 h1
  refine ⟨F2, h2, Nat.le_trans l1 l2, fun e => ?_⟩
  have : F.len = F1.len := by omega
  rw [e2 (by omega), e1 this]
theorem Seg.evolve {E E' : Env} {g off : Nat} {vals : List Value} (h : Seg E g off vals) (ev : Evolve E E') : Seg E' g off vals :=
  fun j v hj => ⟨ev.imm _ _ (h j v hj).1, (ev.cell _ _ (h j v hj).1).trans (h j v hj).2⟩
theorem FamOk.evolve {E E' : Env} {id n g off cap sz : Nat} (h : FamOk E id n g off cap sz) (ev : Evolve E E') : FamOk E' id n g off cap sz := by
  rcases h with h | ⟨F, hF, hn, he⟩
  · exact .inl h
  · obtain ⟨F', h1, h2, h3⟩ := ev.fam id F hF
    refine .inr ⟨F', h1, by omega, fun e => ?_⟩
    have e1 : F.len = F'.len := by omega
    rw [h3 e1]
    exact he (by omega)
theorem FamOkZ.evolve {E E' : Env} {id : Nat} (h : FamOkZ E id) (ev : Evolve E E') : FamOkZ E' id := by
  rcases h with h | ⟨F, hF, he⟩
  · exact .inl h
  · obtain ⟨F', h1, h2, h3⟩ := ev.fam id F hF
    refine .inr ⟨F', h1, fun e => ?_⟩
    have e1 : F.len = F'.len := by omega
    rw [h3 e1]
    exact he (by omega)
theorem RepV.evolve {E E' : Env} (ev : Evolve E E') {v : V} {val : Value} (h : RepV E v val) : RepV E' v val := by
  refine RepV.rec (motive_1 := fun v val _ => RepV E' v val) (motive_2 := fun vs vals _ => RepL E' vs vals) ?_ ?_ ?_ ?_ ?_ ?_ ?_ ?_ ?_ ?_ ?_ ?_ ?_ ?_ ?_ ?_ ?_ ?_ ?_ h
  · intro k n a b; exact .int a b
  · intro b; exact .bool
  · intro s a; exact .str a
  · intro cs vals _ a; exact .agg a
  · intro l off g a; exact .ptr (ev.loc _ _ a)
  · intro cs vals g off k _ s a; exact .eptr a (s.evolve ev)
  · exact .nilp
  · intro id xs vals g off cap sz a b c _ s f r; exact .sl a b c r (s.evolve ev) (f.evolve ev)
  · intro id a f; exact .slz (f.evolve ev)
  · intro a; exact .zsl
  · exact .nilsl
  · intro ex l off len cap g a b c d; exact .slm (ev.loc _ _ a) b c d
  · exact .slm0
  · intro f caps vals _ a; exact .fn a
  · intro vs vals _ a; exact .tup a
  · exact .und
  · exact .raw
  · exact .nil
  · intro v vs val vals _ _ a b; exact .cons a b
theorem RepL.evolve {E E' : Env} (ev : Evolve E E') : ∀ {vs : List V} {vals : List Value}, RepL E vs vals → RepL E' vs vals
  | _, _, .nil => .nil
  | _, _, .cons h t => .cons (h.evolve ev) (RepL.evolve ev t)
theorem RepL.length {E : Env} : ∀ {vs : List V} {vals : List Value}, RepL E vs vals → vals.length = vs.length
  | _, _, .nil => rfl
  | _, _, .cons _ t => by simp [RepL.length t]
theorem RepL.get {E : Env} : ∀ {vs : List V} {vals : List Value}, RepL E vs vals → ∀ {i : Nat} {v : V}, vs[i]? = some v → ∃ val, vals[i]? = some val ∧ RepV E v val
  | _, _, .nil, i, v, h => by simp at h
  | _, _, .cons (val := val) h t, 0, v, e => by simp at e; subst e; exact ⟨val, by simp, h⟩
  | _, _, .cons h t, i + 1, v, e => by simpa using RepL.get t (i := i) (by simpa using e)
theorem RepL.append {E : Env} : ∀ {vs : List V} {vals : List Value} {us : List V} {uals : List Value}, RepL E vs vals → RepL E us uals → RepL E (vs ++ us) (vals ++ uals)
  | _, _, _, _, .nil, k => k
  | _, _, _, _, .cons h t, k => .cons h (RepL.append t k)
theorem RepL.split {E : Env} : ∀ {vs us : List V} {vals : List Value}, RepL E (vs ++ us) vals → ∃ a b, vals = a ++ b ∧ RepL E vs a ∧ RepL E us b
  | [], us, vals, h => ⟨[], vals, rfl, .nil, h⟩
  | v :: vs, us, vals, h => by
    cases h with
    | cons h t =>
      obtain ⟨a, b, rfl, ha, hb⟩ := RepL.split t
      exact ⟨_ :: a, b, rfl, .cons h ha, hb⟩
theorem RepL.take {E : Env} {vs : List V} {vals : List Value} (h : RepL E vs vals) (n : Nat) : RepL E (vs.take n) (vals.take n) := by
  induction n generalizing vs vals with
  | zero => simpa using RepL.nil
  | succ n ih =>
    cases h with
    | nil => simpa using RepL.nil
    | cons h t => simpa using RepL.cons h (ih t)
theorem RepL.drop {E : Env} {vs : List V} {vals : List Value} (h : RepL E vs vals) (n : Nat) : RepL E (vs.drop n) (vals.drop n) := by
  induction n generalizing vs vals with
  | zero => simpa using h
  | succ n ih =>
    cases h with
    | nil => simpa using RepL.nil
    | cons h t => simpa using ih t
theorem RepV.slOf {E : Env} {id n g off cap sz : Nat} {xs : List V} {vals : List Value} (hn : xs.length = n) (a : ∀ x ∈ xs, x.cells.length = sz) (b : n ≤ cap) (c : cap ≤ maxLen) (r : RepL E (V.flat xs) vals) (s : Seg E g off vals)
    (f : FamOk E id n g off cap sz) : RepV E (.sl id xs) (.slice (some ⟨g, off, none⟩) n cap) := by
  subst hn
  exact .sl a b c r s f
/-- One value's cells. -/
theorem RepV.cells {E : Env} {v : V} {val : Value} (h : RepV E v val) : RepL E v.cells val.cells.toList := by
  cases h with
  | agg h => simpa [V.cells, Value.cells] using h
  | raw =>
    simp only [V.cells]
    generalize val.cells.toList = l
    induction l with
    | nil => exact .nil
    | cons x l ih => exact .cons .raw ih
  | _ => simp only [V.cells, Value.cells]; exact .cons (by constructor <;> assumption) .nil
theorem RepV.one {E : Env} {v : V} {val : Value} (h : RepV E v val) (h1 : v.one = true) : val.oneCell' = true := by
  cases h <;> simp_all [V.one, Value.oneCell']
mutual
/-- A value whose slices are not to be appended to. -/
def V.forget : V → V
  | .agg cs => .agg (V.forgetL cs)
  | .sl _ xs => .sl 0 (V.forgetL xs)
  | .zsl => .sl 0 []
  | .nilsl => .sl 0 []
  | .tup vs => .tup (V.forgetL vs)
  | .int k n => .int k n
  | .bool b => .bool b
  | .str s => .str s
  | .ptr l o => .ptr l o
  | .eptr cs o => .eptr cs o
  | .nilp => .nilp
  | .slm x l o n => .slm x l o n
  | .fn f cs => .fn f cs
  | .und => .und
  | .raw v => .raw v
def V.forgetL : List V → List V
  | [] => []
  | v :: vs => V.forget v :: V.forgetL vs
end
theorem V.forgetL_eq : ∀ vs : List V, V.forgetL vs = vs.map V.forget
  | [] => rfl
  | v :: vs => by simp [V.forgetL, V.forgetL_eq vs]
theorem V.forget_cells (v : V) : v.forget.cells = v.cells.map V.forget := by
  cases v <;> simp [V.forget, V.cells, V.forgetL_eq]
theorem V.forget_flat (xs : List V) : V.flat (xs.map V.forget) = (V.flat xs).map V.forget := by
  induction xs with
  | nil => rfl
  | cons x xs ih => simp only [V.flat, List.map_cons, List.flatMap_cons, List.map_append, V.forget_cells] at *; rw [ih]
theorem RepV.forget {E : Env} {v : V} {val : Value} (h : RepV E v val) : RepV E v.forget val := by
  refine RepV.rec (motive_1 := fun v val _ => RepV E v.forget val) (motive_2 := fun vs vals _ => RepL E (vs.map V.forget) vals) ?_ ?_ ?_ ?_ ?_ ?_ ?_ ?_ ?_ ?_ ?_ ?_ ?_ ?_ ?_ ?_ ?_ ?_ ?_ h
  · intro k n a b; exact .int a b
  · intro b; exact .bool
  · intro s a; exact .str a
  · intro cs vals _ a; rw [V.forget, V.forgetL_eq]; exact .agg a
  · intro l off g a; exact .ptr a
  · intro cs vals g off k r s _; exact .eptr r s
  · exact .nilp
  · intro id xs vals g off cap sz a b c _ s f r
    rw [V.forget, V.forgetL_eq]
    have e : xs.length = (xs.map V.forget).length := by simp
    rw [e]
    refine .sl (sz := sz) (vals := vals) (fun x hx => ?_) (by simpa using b) c (by rw [V.forget_flat]; exact r) s (.inl rfl)
    obtain ⟨y, hy, rfl⟩ := List.mem_map.1 hx
    rw [V.forget_cells, List.length_map]
    exact a y hy
  · intro id a f; exact .slz (.inl rfl)
  · intro a; exact .slz (.inl rfl)
  · exact .slz (.inl rfl)
  · intro ex l off len cap g a b c d; exact .slm a b c d
  · exact .slm0
  · intro f caps vals r _; exact .fn r
  · intro vs vals _ a; rw [V.forget, V.forgetL_eq]; exact .tup a
  · exact .und
  · exact .raw
  · exact .nil
  · intro v vs val vals _ _ a b; exact .cons a b
theorem RepL.forget {E : Env} : ∀ {vs : List V} {vals : List Value}, RepL E vs vals → RepL E (vs.map V.forget) vals
  | _, _, .nil => .nil
  | _, _, .cons h t => .cons h.forget (RepL.forget t)
end Go.Proofs.YtbnbmcplmipgdaaGreatDoor
