/-
  One operation at the value level, and that the model's operation does what it says.
  More operations at the value level: those that neither write nor make memory.
  More operations at the value level: addresses, indexes, slices of strings and of slices, len, max, min, structs built.
  More operations at the value level: slicing, len, max, min, structs and slices built, make.
  Operations that make memory: structs built, slices built and made, append; bytes and strings.
  make and append at the value level.
  Strings into bytes and bytes into strings at the value level.
  Own work; no condition.
-/
import Derived.Test.YtbnbmcplmipgdaaGreatDoorVRel
import Derived.Laws.StructEq
import Derived.Lib.ConvBytes
import Derived.Laws.BytesString
namespace Go.Proofs.YtbnbmcplmipgdaaGreatDoor
open Go

/-- A field: where, how many cells, a struct or an array, and which kind: 1: an integer, 2: a string, 3: a bool; 0: else. -/
structure FieldI where
  off : Nat
  size : Nat
  agg : Bool
  tag : Nat

inductive Kd where
  | int (k : IntKind) | bool | string | other
  | slice (elem : TypeId)
  | struct (fs : List FieldI) (eqs : Bool)

structure Ty where
  size : Nat
  bytes : Nat
  zero : List V
  kd : Kd

def Ty.agg (t : Ty) : Bool := match t.kd with | .struct _ _ => true | _ => false

/-- A value of one cell that leads to no memory. -/
def vOf1 : Value → Option V
  | .int k n => if k.min ≤ n ∧ n ≤ k.max then some (.int k n) else none
  | .bool b => some (.bool b)
  | .string s => if s.data.toList.length ≤ maxLen then some (.str s.data.toList) else none
  | .pointer none => some .nilp
  | .slice none 0 0 => some .nilsl
  | .nilIface => some (.raw .nilIface)
  | _ => none

def vOfL : List Value → Option (List V)
  | [] => some []
  | v :: vs => (vOf1 v).bind fun x => (vOfL vs).map (x :: ·)

def vOf : Value → Option V
  | .agg cs => (vOfL cs.toList).map .agg
  | v => vOf1 v

def isAggD : TypeDesc → Bool
  | .struct _ | .array _ _ => true
  | _ => false

def tagD : TypeDesc → Nat
  | .int _ => 1
  | .string => 2
  | .bool => 3
  | _ => 0

def fieldOf (P : Program) (f : Field) : Option FieldI :=
  (P.info? f.type).bind fun i => (P.underlying f.type).map fun d => ⟨f.offset, i.size, isAggD d, if f.name = "_" then 0 else tagD d⟩

def fieldsOf (P : Program) : List Field → Option (List FieldI)
  | [] => some []
  | f :: fs => (fieldOf P f).bind fun x => (fieldsOf P fs).map (x :: ·)

def kdOf (P : Program) (T : TypeId) : TypeDesc → Option Kd
  | .int k => some (.int k)
  | .bool => some .bool
  | .string => some .string
  | .slice e => some (.slice e)
  | .struct fs => (fieldsOf P fs.toList).map fun l => .struct l (!P.stoodInHeld T && !P.eqGuardType P.depth T)
  | .array _ _ => none
  | _ => some .other

def tyOf (P : Program) (T : TypeId) : Option Ty :=
  (P.info? T).bind fun i => (P.underlying T).bind fun d => (kdOf P T d).map fun k => ⟨i.size, i.bytes, match i.zero with | some z => (vOfL z.cells.toList).getD [] | none => [], k⟩

theorem tyOf_parts {P : Program} {T : TypeId} {t : Ty} (h : tyOf P T = some t) :
    ∃ i d, P.info? T = some i ∧ P.underlying T = some d ∧ kdOf P T d = some t.kd ∧ t.size = i.size ∧ t.bytes = i.bytes ∧ isAggD d = t.agg ∧
      t.zero = (match i.zero with | some z => (vOfL z.cells.toList).getD [] | none => []) := by
  unfold tyOf at h
  simp only [Option.bind_eq_some_iff, Option.map_eq_some_iff] at h
  obtain ⟨i, hi, d, hd, k, hk, rfl⟩ := h
  refine ⟨i, d, hi, hd, hk, rfl, rfl, ?_, rfl⟩
  cases d <;> simp_all only [kdOf, isAggD, Ty.agg, Option.some.injEq, Option.map_eq_some_iff, reduceCtorEq] <;> first | (subst hk; rfl) | (obtain ⟨_, _, rfl⟩ := hk; rfl)

theorem vOf1_sound {E : Env} {val : Value} {v : V} (h : vOf1 val = some v) : RepV E v val := by
  unfold vOf1 at h
  split at h
  · split at h
    · rename_i hc; cases h; exact .int hc.1 hc.2
    · cases h
  · cases h; exact .bool
  · split at h
    · rename_i s hc
      cases h
      have := RepV.str (E := E) (s := s.data.toList) hc
      simpa using this
    · cases h
  · cases h; exact .nilp
  · cases h; exact .nilsl
  · cases h; exact .raw
  · cases h

theorem vOfL_sound {E : Env} : ∀ {vals : List Value} {vs : List V}, vOfL vals = some vs → RepL E vs vals
  | [], vs, h => by cases h; exact .nil
  | val :: vals, vs, h => by
    simp only [vOfL, Option.bind_eq_some_iff, Option.map_eq_some_iff] at h
    obtain ⟨x, hx, l, hl, rfl⟩ := h
    exact .cons (vOf1_sound hx) (vOfL_sound hl)

theorem vOf_sound {E : Env} {val : Value} {v : V} (h : vOf val = some v) : RepV E v val := by
  unfold vOf at h
  split at h
  · rename_i cs
    obtain ⟨vs, hvs, rfl⟩ := Option.map_eq_some_iff.1 h
    have := RepV.agg (vOfL_sound (E := E) hvs)
    simpa using this
  · exact vOf1_sound h

/-! ### The frame -/
def put (σ : Nat → V) (d : Nat) (v : V) : Nat → V := fun t => if t = d then v else σ t

structure RepA (E : Env) (σ : Nat → V) (N : Nat) (a : Act) : Prop where
  slot : ∀ t, RepV E (σ t) (a.tmps.getD t undef)
  size : a.tmps.size = N
  defers : a.defers = []

theorem RepA.evolve {E E' : Env} {σ : Nat → V} {N : Nat} {a : Act} (h : RepA E σ N a) (ev : Evolve E E') : RepA E' σ N a :=
  ⟨fun t => (h.slot t).evolve ev, h.size, h.defers⟩

theorem RepA.put {E : Env} {σ : Nat → V} {N : Nat} {a : Act} (h : RepA E σ N a) {d : Nat} (hd : d < N) {v : V} {val : Value} (hv : RepV E v val) : RepA E (put σ d v) N (a.put (some d) val) := by
  refine ⟨fun t => ?_, by simp [Act.put, h.size], h.defers⟩
  by_cases e : t = d
  · subst e
    have : (a.tmps.setIfInBounds t val).getD t undef = val := by
      have := h.size
      simp [Array.getD_eq_getD_getElem?, show t < a.tmps.size by omega]
    simpa [Go.Proofs.YtbnbmcplmipgdaaGreatDoor.put, Act.put, this] using hv
  · have : (a.tmps.setIfInBounds d val).getD t undef = a.tmps.getD t undef := by
      simp [Array.getD_eq_getD_getElem?, Ne.symm e]
    simpa only [Go.Proofs.YtbnbmcplmipgdaaGreatDoor.put, Act.put, this, if_neg e] using h.slot t

def vev (σ : Nat → V) : Operand → Option V
  | .tmp t => some (σ t)
  | .const v => vOf v
  | .func f => some (.fn f [])
  | .global _ => none

theorem vev_sound {E : Env} {σ : Nat → V} {N : Nat} {a : Act} (h : RepA E σ N a) {x : Operand} {v : V} (hx : vev σ x = some v) : RepV E v (a.eval x) := by
  cases x with
  | tmp t => cases hx; exact h.slot t
  | const c => exact vOf_sound hx
  | func f => cases hx; exact .fn .nil
  | global g => cases hx

def vevL (σ : Nat → V) : List Operand → Option (List V)
  | [] => some []
  | x :: xs => (vev σ x).bind fun v => (vevL σ xs).map (v :: ·)

theorem vevL_sound {E : Env} {σ : Nat → V} {N : Nat} {a : Act} (h : RepA E σ N a) : ∀ {xs : List Operand} {vs : List V}, vevL σ xs = some vs → RepL E vs (xs.map a.eval)
  | [], vs, e => by cases e; exact .nil
  | x :: xs, vs, e => by
    simp only [vevL, Option.bind_eq_some_iff, Option.map_eq_some_iff] at e
    obtain ⟨v, hv, l, hl, rfl⟩ := e
    exact .cons (vev_sound h hv) (vevL_sound h hl)

/-! ### What an operation does: the shape of its soundness -/
def Does (P : Program) (m : Sem Value) (E : Env) (s : S) (v : V) (s' : S) : Prop :=
  ∃ val E', m.run P E.w = .ok val E'.w ∧ Step E s E' s' ∧ RelS E' s' ∧ RepV E' v val

theorem Does.pure {P : Program} {m : Sem Value} {E : Env} {s : S} {v : V} {val : Value} (hr : RelS E s) (h : m.run P E.w = .ok val E.w) (hv : RepV E v val) : Does P m E s v s :=
  ⟨val, E, h, .refl _ _, hr, hv⟩

/-! ### Cells of a row -/
def takeV (cs : List V) (off size : Nat) (agg : Bool) : Option V :=
  if off + size ≤ cs.length then (if agg then some (.agg ((cs.drop off).take size)) else cs[off]?) else none

theorem add_eq (g o n : Nat) : (⟨g, o, none⟩ : Addr).add n = ⟨g, o + n, none⟩ := by
  unfold Addr.add
  split <;> simp_all

theorem run_isAgg {P : Program} {T : TypeId} {d : TypeDesc} (h : P.underlying T = some d) (w : World) : (isAgg T).run P w = .ok (isAggD d) w := by
  cases d <;> simp [isAgg, run_underlying h, isAggD]

theorem run_typeInfo' {P : Program} {T : TypeId} {i : TypeInfo} (h : P.info? T = some i) (w : World) : (typeInfo T).run P w = .ok i w := by
  simp [typeInfo, h]
theorem run_sizeOf' {P : Program} {T : TypeId} {i : TypeInfo} (h : P.info? T = some i) (w : World) : (sizeOf T).run P w = .ok i.size w := by
  simp [sizeOf, run_typeInfo' h]

theorem loadVar_does {P : Program} {T : TypeId} {t : Ty} (ht : tyOf P T = some t) {E : Env} {cs : List V} {vals : List Value} {g base off : Nat} {v : V}
    (r : RepL E cs vals) (hcell : ∀ j x, vals[j]? = some x → E.w.cell? ⟨g, base + j, none⟩ = some x) (h : takeV cs off t.size t.agg = some v) :
    ∃ val, (loadVar T ⟨g, base + off, none⟩).run P E.w = .ok val E.w ∧ RepV E v val := by
  obtain ⟨i, d, hi, hd, _, hs, _, hagg, _⟩ := tyOf_parts ht
  unfold takeV at h
  split at h
  case isFalse => cases h
  rename_i hle
  have hlen := r.length
  simp only [loadVar, Sem.run_bind, run_isAgg hd, Result.andThen_ok, hagg]
  split at h
  · rename_i ha
    cases h
    have hl : ((vals.drop off).take t.size).length = i.size := by
      rw [← hs, List.length_take, List.length_drop]; omega
    have := run_loadCells_list (P := P) E.w ⟨g, base + off, none⟩ ((vals.drop off).take t.size) (fun j x hx => by
      rw [add_eq, Nat.add_assoc]
      apply hcell
      rw [List.getElem?_take] at hx
      split at hx
      · simpa using hx
      · cases hx)
    rw [hl] at this
    refine ⟨.agg ((vals.drop off).take t.size).toArray, ?_, .agg ((r.drop off).take _)⟩
    simp [ha, run_sizeOf' hi, this]
  · rename_i ha
    obtain ⟨val, hv, hrep⟩ := r.get h
    refine ⟨val, ?_, hrep⟩
    simp [ha, hcell _ _ hv]

/-! ### load -/
def vload (P : Program) (T : TypeId) (x : V) (s : S) : Option V :=
  (tyOf P T).bind fun t => match x with
    | .ptr l off => (s.vars l).bind fun cs => takeV cs off t.size t.agg
    | .eptr cs off => takeV cs off t.size t.agg
    | _ => none

theorem vload_core {P : Program} {T : TypeId} {x v : V} {s : S} {E : Env} {val : Value} (hr : RelS E s) (hx : RepV E x val) (h : vload P T x s = some v) :
    ∃ ad y, val = .pointer (some ad) ∧ (loadVar T ad).run P E.w = .ok y E.w ∧ RepV E v y := by
  simp only [vload, Option.bind_eq_some_iff] at h
  obtain ⟨t, ht, h⟩ := h
  cases hx with
  | ptr hg =>
    obtain ⟨cs, hcs, h⟩ := Option.bind_eq_some_iff.1 h
    obtain ⟨g, arr, e, fr, h1, h2⟩ := hr.var _ _ hcs
    rw [hg] at h1
    cases h1
    obtain ⟨val, hrun, hrep⟩ := loadVar_does ht (base := 0) h2.rep (fun j x hx => by
      rw [cell_of_row E.w _ _ arr e fr h2.heap, Nat.zero_add]
      rw [List.getElem?_take] at hx
      split at hx
      · simpa using hx
      · cases hx) h
    exact ⟨_, _, rfl, by simpa using hrun, hrep⟩
  | eptr r sg =>
    obtain ⟨val, hrun, hrep⟩ := loadVar_does ht r (fun j x hx => (sg j x hx).2) h
    exact ⟨_, _, rfl, hrun, hrep⟩
  | _ => simp at h

theorem vload_sound {P : Program} {T : TypeId} {x v : V} {s : S} {E : Env} {val : Value} (hr : RelS E s) (hx : RepV E x val) (h : vload P T x s = some v) : Does P (Instr.loadAt T val) E s v s := by
  obtain ⟨ad, y, rfl, h1, h2⟩ := vload_core (P := P) hr hx h
  exact .pure hr (by simpa [Instr.loadAt, Instr.sureAddr] using h1) h2

/-! ### new variables -/
theorem box_sound {P : Program} {T : TypeId} {v : V} {s : S} {E : Env} {val : Value} (hr : RelS E s) (hx : RepV E v val) : Does P (Instr.box T val) E s (.ptr s.next 0) (s.newVar v.cells) := by
  have hl := hx.cells.length
  obtain ⟨h1, h2⟩ := step_newVar hr (arr := val.cells) (by rw [← hl, List.take_length]; exact hx.cells) (by simp only [Array.length_toList] at hl; omega) T (0, 0) (fun o _ h => by omega)
  refine ⟨.pointer (some ⟨E.w.heap.size, 0, none⟩), _, ?_, h1, h2, .ptr (by simp [Env.newVar])⟩
  simp [Instr.box, newVar, newRow, Env.newVar]

def valloc (P : Program) (T : TypeId) (s : S) : Option (V × S) :=
  (tyOf P T).bind fun t => if t.zero.length = t.size ∧ 0 < t.size then some (.ptr s.next 0, s.newVar t.zero) else none

theorem zero_rep {P : Program} {T : TypeId} {t : Ty} (ht : tyOf P T = some t) (h0 : t.zero.length = t.size ∧ 0 < t.size) :
    ∃ i z, P.info? T = some i ∧ i.zero = some z ∧ t.size = i.size ∧ z.cells.size = i.size ∧ ∀ E : Env, RepL E t.zero z.cells.toList := by
  obtain ⟨i, d, hi, hd, _, hs, _, _, hz⟩ := tyOf_parts ht
  cases hzz : i.zero with
  | none => rw [hzz] at hz; simp at hz; rw [hz] at h0; simp at h0; omega
  | some z =>
    rw [hzz] at hz
    simp only at hz
    cases hl : vOfL z.cells.toList with
    | none => rw [hl] at hz; simp at hz; rw [hz] at h0; simp at h0; omega
    | some vs =>
      rw [hl] at hz
      simp only [Option.getD_some] at hz
      have hrep : ∀ E : Env, RepL E t.zero z.cells.toList := fun E => by rw [hz]; exact vOfL_sound hl
      have := (hrep ⟨default, fun _ _ => False, fun _ => none, fun _ => none⟩).length
      exact ⟨i, z, hi, hzz, hs, by rw [← hs, ← h0.1, ← this]; simp, hrep⟩

theorem valloc_sound {P : Program} {T : TypeId} {s s' : S} {E : Env} {v : V} (hr : RelS E s) (h : valloc P T s = some (v, s')) : Does P (Instr.alloc T true (.tuple #[])) E s v s' := by
  simp only [valloc, Option.bind_eq_some_iff] at h
  obtain ⟨t, ht, h⟩ := h
  split at h
  case isFalse => cases h
  rename_i h0
  cases h
  obtain ⟨i, z, hi, hz, hs, _, hrep⟩ := zero_rep ht h0
  have hl := (hrep E).length
  obtain ⟨h1, h2⟩ := step_newVar hr (arr := z.cells) (by rw [← hl, List.take_length]; exact hrep E) (by simp only [Array.length_toList] at hl; omega) T (0, 0) (fun o _ h => by omega)
  refine ⟨.pointer (some ⟨E.w.heap.size, 0, none⟩), _, ?_, h1, h2, .ptr (by simp [Env.newVar])⟩
  simp [Instr.alloc, newVar, newRow, Env.newVar, zeroValue, typeInfo, hi, hz]

/-! ### store -/
def splice (cs : List V) (off : Nat) (vs : List V) : List V := cs.take off ++ vs ++ cs.drop (off + vs.length)

def vstore (P : Program) (T : TypeId) (x v : V) (s : S) : Option S :=
  (tyOf P T).bind fun t => match x with
    | .ptr l off => (s.vars l).bind fun cs =>
      if v.cells.length = t.size ∧ off + t.size ≤ cs.length ∧ v.cells.all V.one = true then some (s.setVar l (splice cs off v.cells)) else none
    | _ => none

theorem RepL.one {E : Env} : ∀ {vs : List V} {vals : List Value}, RepL E vs vals → vs.all V.one = true → ∀ x ∈ vals, x.oneCell' = true
  | _, _, .nil, _, x, hx => by cases hx
  | _, _, .cons h t, h1, x, hx => by
    simp only [List.all_cons, Bool.and_eq_true] at h1
    cases hx with
    | head => exact h.one h1.1
    | tail _ hx => exact RepL.one t h1.2 x hx

theorem run_storeCells_fr (P : Program) (g o : Nat) (t : TypeId) (fr : Nat × Nat) : ∀ (vs : List Value) (i : Nat) (cur : Array Value) (w : World), w.heap[g]? = some (.cells cur t fr) → o + i + vs.length ≤ cur.size →
    (∀ x, o + i ≤ x → x < o + i + vs.length → ¬ (fr.1 ≤ x ∧ x < fr.2)) → (∀ v ∈ vs, v.oneCell' = true) →
    (storeCells ⟨g, o, none⟩ vs i).run P w = .ok () (w.setRow g (cur.toList.take (o + i) ++ vs ++ cur.toList.drop (o + i + vs.length)).toArray)
  | [], i, cur, w, hg, _, _, _ => by
    simp only [storeCells, List.append_nil, List.length_nil, Nat.add_zero, List.take_append_drop, Array.toArray_toList]
    rw [setRow_self w g cur t fr hg]
    rfl
  | v :: rest, i, cur, w, hg, hl, hfr, h1 => by
    have hi : o + i < cur.size := by simp at hl; omega
    have hcell : w.cell? ⟨g, o + i, none⟩ = some cur[o + i] := by simp [World.cell?, hg, hi]
    have hfro : w.frozen? ⟨g, o + i, none⟩ = false := by
      have := hfr (o + i) (Nat.le_refl _) (by simp)
      simp only [World.frozen?, hg]
      rw [Bool.eq_false_iff]
      simpa using this
    have hst : (store ((⟨g, o, none⟩ : Addr).add i) v).run P w = .ok () (w.setRow g (cur.setIfInBounds (o + i) v)) := by
      rw [add_eq, run_store P w _ v _ (h1 v (by simp)), hcell]
      simp [hfro, setCell_eq_setRow w g (o + i) cur t fr v hg]
    have ih := run_storeCells_fr P g o t fr rest (i + 1) (cur.setIfInBounds (o + i) v) (w.setRow g (cur.setIfInBounds (o + i) v)) (setRow_heap w g cur _ t _ hg) (by simp at hl ⊢; omega)
      (fun x hx hx2 => hfr x (by omega) (by simp; omega)) (fun x hx => h1 x (by simp [hx]))
    simp only [storeCells, Sem.run_bind, hst, Result.andThen_ok, ih, setRow_setRow]
    congr 3
    have e := list_seg_step cur.toList (o + i) v rest (by simp at hl ⊢; omega)
    simpa [Array.toList_setIfInBounds, Nat.add_assoc] using e

theorem vstore_sound {P : Program} {T : TypeId} {x v : V} {s s' : S} {E : Env} {xval val : Value} (hr : RelS E s) (hx : RepV E x xval) (hv : RepV E v val) (h : vstore P T x v s = some s') :
    ∃ E', (Instr.storeAt T xval val).run P E.w = .ok () E'.w ∧ Step E s E' s' ∧ RelS E' s' := by
  simp only [vstore, Option.bind_eq_some_iff] at h
  obtain ⟨t, ht, h⟩ := h
  obtain ⟨i, d, hi, hd, _, hs, _, hagg, _⟩ := tyOf_parts ht
  cases hx with
  | @ptr l off g hg =>
    obtain ⟨cs, hcs, h⟩ := Option.bind_eq_some_iff.1 h
    split at h
    case isFalse => cases h
    rename_i hc
    obtain ⟨c1, c2, c3⟩ := hc
    cases h
    obtain ⟨g', arr, e, fr, h1, h2⟩ := hr.var _ _ hcs
    rw [hg] at h1
    cases h1
    have hvc := hv.cells
    have hl1 := hvc.length
    have hl2 := h2.rep.length
    have hle := h2.le
    have hsplen : (splice cs off v.cells).length = cs.length := by
      unfold splice
      simp only [List.length_append, List.length_take, List.length_drop]
      omega
    have hrep : RepL E (splice cs off v.cells) ((arr.toList.take off ++ val.cells.toList ++ arr.toList.drop (off + val.cells.toList.length)).toArray.toList.take (splice cs off v.cells).length) := by
      have e1 : (arr.toList.take off ++ val.cells.toList ++ arr.toList.drop (off + val.cells.toList.length)).take cs.length =
          (arr.toList.take cs.length).take off ++ val.cells.toList ++ (arr.toList.take cs.length).drop (off + val.cells.toList.length) := by
        rw [List.take_take, Nat.min_eq_left (by omega), List.append_assoc, List.append_assoc, List.take_append, List.take_append]
        have l1 : (arr.toList.take off).length = off := by simp only [List.length_take, Array.length_toList]; omega
        rw [l1, List.take_take, Nat.min_eq_right (by omega), List.take_of_length_le (by omega : val.cells.toList.length ≤ cs.length - off), List.drop_take]
        congr 3
        omega
      rw [hsplen]
      show RepL E _ ((arr.toList.take off ++ val.cells.toList ++ arr.toList.drop (off + val.cells.toList.length)).take cs.length)
      rw [e1]
      unfold splice
      rw [hl1]
      exact ((h2.rep.take off).append hvc).append (h2.rep.drop _)
    have hlen' : (splice cs off v.cells).length ≤ (arr.toList.take off ++ val.cells.toList ++ arr.toList.drop (off + val.cells.toList.length)).toArray.size := by
      rw [hsplen]
      simp only [List.size_toArray, List.length_append, List.length_take, List.length_drop, Array.length_toList] at *
      omega
    obtain ⟨k1, k2⟩ := step_setVar hr hcs hg h2 hsplen hrep hlen'
    refine ⟨_, ?_, k1, k2⟩
    have hst := run_storeCells_fr P g off e fr val.cells.toList 0 arr E.w h2.heap (by simp only [Array.length_toList] at *; omega) (fun x hx1 hx2 => h2.free x (by omega)) (RepL.one hvc c3)
    simp only [Nat.add_zero] at hst
    have hsz : ¬ val.cells.size ≠ i.size := by simp only [Array.length_toList] at *; omega
    simp only [Instr.storeAt, Instr.sureAddr, Sem.run_bind, Sem.run_pure, Result.andThen_ok, storeVar, sizeOf, typeInfo, hi, run_program, hsz, if_false, hst]
    rfl
  | _ => simp at h

end Go.Proofs.YtbnbmcplmipgdaaGreatDoor

namespace Go.Proofs.YtbnbmcplmipgdaaGreatDoor
open Go

/-! ### integers stay in their range -/
theorem wrap_range (k : IntKind) (n : Int) : k.min ≤ k.wrap n ∧ k.wrap n ≤ k.max := by
  cases k <;> simp only [IntKind.min, IntKind.max, IntKind.wrap, IntKind.bits, IntKind.signed, Bool.true_and, Bool.false_and, if_true, Bool.false_eq_true, if_false, ge_iff_le, decide_eq_true_eq] <;>
    (try split) <;> omega

theorem tmod_range {k : IntKind} {a b : Int} (h1 : k.min ≤ a) (h2 : a ≤ k.max) : k.min ≤ a.tmod b ∧ a.tmod b ≤ k.max := by
  have hmin : k.min ≤ 0 := by cases k <;> decide
  have hmax : 0 ≤ k.max := by cases k <;> decide
  have hab : (a.tmod b).natAbs ≤ a.natAbs := by rw [Int.natAbs_tmod]; exact Nat.mod_le _ _
  rcases Int.lt_or_le a 0 with h | h
  · have : a.tmod b ≤ 0 := by
      have := Int.tmod_nonneg b (show 0 ≤ -a by omega)
      rw [Int.neg_tmod] at this
      omega
    omega
  · have := Int.tmod_nonneg b h
    omega

theorem fdiv_range {k : IntKind} {a : Int} (m : Nat) (h1 : k.min ≤ a) (h2 : a ≤ k.max) : k.min ≤ a.fdiv (2 ^ m) ∧ a.fdiv (2 ^ m) ≤ k.max := by
  have hmin : k.min ≤ 0 := by cases k <;> decide
  have hmax : 0 ≤ k.max := by cases k <;> decide
  have hp : (0 : Int) < 2 ^ m := Int.pow_pos (by decide)
  rw [Int.fdiv_eq_ediv_of_nonneg _ (Int.le_of_lt hp)]
  rcases Int.lt_or_le a 0 with h | h
  · have l1 : a ≤ a / 2 ^ m := by
      rw [Int.le_ediv_iff_mul_le hp]
      have := Int.mul_le_mul_of_nonneg_left (show (1 : Int) ≤ 2 ^ m by omega) (show 0 ≤ -a by omega)
      rw [Int.mul_one, Int.neg_mul] at this
      omega
    have l2 : a / 2 ^ m ≤ 0 := Int.ediv_nonpos_of_nonpos_of_neg (Int.le_of_lt h) hp
    omega
  · have l1 : 0 ≤ a / 2 ^ m := Int.ediv_nonneg h (Int.le_of_lt hp)
    have l2 : a / 2 ^ m ≤ a := Int.ediv_le_self _ h
    omega

/-! ### binary operators -/
def vbits (op : BinOp) (k : IntKind) (a b : Int) : Option V :=
  match op with
  | .and => some (.int k (k.wrap (BitVec.ofInt k.bits a &&& BitVec.ofInt k.bits b).toNat))
  | .or => some (.int k (k.wrap (BitVec.ofInt k.bits a ||| BitVec.ofInt k.bits b).toNat))
  | .xor => some (.int k (k.wrap (BitVec.ofInt k.bits a ^^^ BitVec.ofInt k.bits b).toNat))
  | .andNot => some (.int k (k.wrap (BitVec.ofInt k.bits a &&& ~~~BitVec.ofInt k.bits b).toNat))
  | _ => none

def vint (op : BinOp) (k : IntKind) (a b : Int) : Option V :=
  match op with
  | .add => some (.int k (k.wrap (a + b)))
  | .sub => some (.int k (k.wrap (a - b)))
  | .mul => some (.int k (k.wrap (a * b)))
  | .quo => if b = 0 then none else some (.int k (k.wrap (a.tdiv b)))
  | .rem => if b = 0 then none else some (.int k (a.tmod b))
  | .eql => some (.bool (decide (a = b)))
  | .neq => some (.bool (!decide (a = b)))
  | .lss => some (.bool (decide (a < b)))
  | .leq => some (.bool (decide (a ≤ b)))
  | .gtr => some (.bool (decide (b < a)))
  | .geq => some (.bool (decide (b ≤ a)))
  | op => vbits op k a b

def vstrOp (op : BinOp) (a b : List UInt8) : Option V :=
  match op with
  | .add => if a.length + b.length ≤ maxLen then some (.str (a ++ b)) else none
  | .eql => some (.bool (decide (a = b)))
  | .neq => some (.bool (!decide (a = b)))
  | .lss => some (.bool (Op.bytesLess a b))
  | .leq => some (.bool (Op.bytesLess a b || decide (a = b)))
  | .gtr => some (.bool (!(Op.bytesLess a b || decide (a = b))))
  | .geq => some (.bool (!Op.bytesLess a b))
  | _ => none

def eqT : Nat → V → V → Option Bool
  | 1, .int k a, .int k' b => if k = k' then some (decide (a = b)) else none
  | 2, .str a, .str b => some (decide (a = b))
  | 3, .bool a, .bool b => some (decide (a = b))
  | _, _, _ => none

def eqF : List FieldI → Nat → List V → List V → Option Bool
  | [], _, [], [] => some true
  | f :: fs, k, x :: xs, y :: ys => if f.off = k then (eqT f.tag x y).bind fun b => (eqF fs (k + 1) xs ys).map fun r => b && r else none
  | _, _, _, _ => none

def veq (P : Program) (T : TypeId) (x y : V) : Option Bool :=
  match x, y with
  | .bool a, .bool b => (tyOf P T).bind fun t => match t.kd with | .bool => some (decide (a = b)) | _ => none
  | .agg xs, .agg ys => (tyOf P T).bind fun t => match t.kd with | .struct fs true => eqF fs 0 xs ys | _ => none
  | _, _ => none

def vbin (P : Program) (op : BinOp) (T : TypeId) (x y : V) : Option V :=
  match op, x, y with
  | .shl, .int k a, .int _ b => if 0 ≤ b then some (.int k (k.wrap (a * 2 ^ (min b.toNat k.bits)))) else none
  | .shr, .int k a, .int _ b => if 0 ≤ b then some (.int k (a.fdiv (2 ^ (min b.toNat k.bits)))) else none
  | op, .int k a, .int k' b => if k = k' then vint op k a b else none
  | op, .str a, .str b => vstrOp op a b
  | .eql, x, y => (veq P T x y).map .bool
  | .neq, x, y => (veq P T x y).map fun b => .bool !b
  | _, _, _ => none

theorem fieldsOf_get {P : Program} : ∀ {fs : List Field} {l : List FieldI}, fieldsOf P fs = some l → ∀ {i : Nat} {fi : FieldI}, l[i]? = some fi → ∃ f, fs[i]? = some f ∧ fieldOf P f = some fi
  | [], l, h, i, fi, hi => by cases h; simp at hi
  | f :: fs, l, h, i, fi, hi => by
    simp only [fieldsOf, Option.bind_eq_some_iff, Option.map_eq_some_iff] at h
    obtain ⟨x, hx, r, hr, rfl⟩ := h
    cases i with
    | zero => simp at hi; subst hi; exact ⟨f, by simp, hx⟩
    | succ i => simpa using fieldsOf_get hr (i := i) (by simpa using hi)

theorem run_part1 {P : Program} {T : TypeId} {d : TypeDesc} (h : P.underlying T = some d) (ha : isAggD d = false) {cs : Array Value} {o : Nat} {v : Value} (hv : cs[o]? = some v) (w : World) :
    (part T cs o).run P w = .ok v w := by
  simp [part, run_isAgg h, ha, hv]

theorem eqT_sound {P : Program} {E : Env} {T : TypeId} {d : TypeDesc} {x y : V} {xv yv : Value} {b : Bool} {tag n : Nat} (hd : P.underlying T = some d)
    (htag : tag = tagD d ∨ tag = 0) (hx : RepV E x xv) (hy : RepV E y yv) (h : eqT tag x y = some b) :
    isAggD d = false ∧ (Op.equalIn (n + 1) T xv yv).run P E.w = .ok b E.w := by
  unfold eqT at h
  split at h
  · split at h
    case isFalse => cases h
    rename_i hk
    subst hk
    cases h
    cases hx
    cases hy
    rcases htag with e | e
    · cases d <;> simp [tagD] at e
      refine ⟨rfl, ?_⟩
      rw [run_equalIn_int E.w n T _ _ _ _ hd]
      rfl
    · cases e
  · cases h
    cases hx
    cases hy
    rcases htag with e | e
    · cases d <;> simp [tagD] at e
      refine ⟨rfl, ?_⟩
      rw [run_equalIn_string E.w n T _ _ hd, ByteArray.toList_eq, ByteArray.toList_eq]
      congr 1
      rw [Bool.eq_iff_iff]
      simp
    · cases e
  · cases h
    cases hx
    cases hy
    rcases htag with e | e
    · cases d <;> simp [tagD] at e
      refine ⟨rfl, ?_⟩
      rw [run_equalIn_bool' E.w n T _ _ hd]
      rename_i a b
      cases a <;> cases b <;> rfl
    · cases e
  · cases h

theorem eqF_sound {P : Program} {E : Env} {n : Nat} {X Y : Array Value} : ∀ {fs : List Field} {l : List FieldI} {k : Nat} {xs ys : List V} {xv yv : List Value} {b : Bool}, fieldsOf P fs = some l → eqF l k xs ys = some b →
    RepL E xs xv → RepL E ys yv → (∀ j v, xv[j]? = some v → X[k + j]? = some v) → (∀ j v, yv[j]? = some v → Y[k + j]? = some v) → (Op.eqFields (n + 1) X Y fs).run P E.w = .ok b E.w
  | [], l, k, xs, ys, xv, yv, b, hf, h, hx, hy, _, _ => by
    cases hf
    cases hx with
    | nil => cases hy with
      | nil => cases h; simp [Op.eqFields]
      | cons => simp [eqF] at h
    | cons => cases hy <;> simp [eqF] at h
  | f :: fs, l, k, xs, ys, xv, yv, b, hf, h, hx, hy, hX, hY => by
    simp only [fieldsOf, Option.bind_eq_some_iff, Option.map_eq_some_iff] at hf
    obtain ⟨fi, hfi, r, hr, rfl⟩ := hf
    cases hx with
    | nil => cases hy <;> simp [eqF] at h
    | cons hx hxs => cases hy with
      | nil => simp [eqF] at h
      | cons hy hys =>
        simp only [eqF] at h
        split at h
        case isFalse => cases h
        rename_i hoff
        simp only [Option.bind_eq_some_iff, Option.map_eq_some_iff] at h
        obtain ⟨b1, hb1, b2, hb2, rfl⟩ := h
        simp only [fieldOf, Option.bind_eq_some_iff, Option.map_eq_some_iff] at hfi
        obtain ⟨i, hi, d, hd, rfl⟩ := hfi
        simp only at hoff hb1
        have hne : ¬ f.name = "_" := by
          intro e
          rw [if_pos e] at hb1
          unfold eqT at hb1
          split at hb1 <;> simp_all
        rw [if_neg hne] at hb1
        obtain ⟨hagg, heq⟩ := eqT_sound (P := P) (n := n) hd (.inl rfl) hx hy hb1
        have px := run_part1 (P := P) hd hagg (hX 0 _ rfl) E.w
        have py := run_part1 (P := P) hd hagg (hY 0 _ rfl) E.w
        rw [Nat.add_zero, ← hoff] at px py
        have rest := eqF_sound (P := P) (n := n) (X := X) (Y := Y) hr hb2 hxs hys (fun j v hj => by rw [Nat.add_assoc, Nat.add_comm 1 j]; exact hX (j + 1) v (by simpa using hj))
          (fun j v hj => by rw [Nat.add_assoc, Nat.add_comm 1 j]; exact hY (j + 1) v (by simpa using hj))
        simp only [Op.eqFields, ne_eq, hne, not_false_eq_true, if_true, Sem.run_bind, px, py, Result.andThen_ok, heq, Sem.run_ite]
        cases b1
        · simp
        · simp [rest]

theorem veq_sound {P : Program} {T : TypeId} {E : Env} {x y : V} {xv yv : Value} {b : Bool} (hx : RepV E x xv) (hy : RepV E y yv) (h : veq P T x y = some b) :
    (Op.equal T xv yv).run P E.w = .ok b E.w ∧ ∀ op X Y, (eqGuard op T X Y xv yv).run P E.w = .ok () E.w := by
  unfold veq at h
  split at h
  · obtain ⟨t, ht, h⟩ := Option.bind_eq_some_iff.1 h
    obtain ⟨i, d, hi, hd, hk, _⟩ := tyOf_parts ht
    cases hkd : t.kd with
    | bool =>
      simp only [hkd] at h
      rw [hkd] at hk
      cases h
      cases hx
      cases hy
      have hd' : d = .bool := by cases d <;> simp [kdOf] at hk <;> first | rfl | skip
      subst hd'
      constructor
      · show (Op.equalIn (9999 + 1) T _ _).run P E.w = _
        rw [run_equalIn_bool' E.w _ T _ _ hd]
        rename_i a b
        cases a <;> cases b <;> rfl
      · intro op X Y
        cases op <;> simp [eqGuard]
    | _ => simp [hkd] at h
  · obtain ⟨t, ht, h⟩ := Option.bind_eq_some_iff.1 h
    obtain ⟨i, d, hi, hd, hk, _⟩ := tyOf_parts ht
    split at h
    case h_2 => cases h
    rename_i fs hkd
    rw [hkd] at hk
    cases hx with
    | agg rx => cases hy with
      | agg ry =>
        cases d <;> simp [kdOf] at hk
        rename_i flds _
        obtain ⟨l, hl, ⟨rfl, hst, heqg⟩⟩ := hk
        have hfields : P.fieldsOf T = flds := by simp [Program.fieldsOf, hd]
        constructor
        · show (Op.equalIn (9999 + 1) T _ _).run P E.w = _
          rw [run_equalIn_struct E.w 9999 T _ _ (by rw [hfields]; exact hd) hst, hfields]
          exact eqF_sound (n := 9998) hl h rx ry (fun j v hj => by simpa using hj) (fun j v hj => by simpa using hj)
        · intro op X Y
          cases op <;> simp [eqGuard, heqg]
  · cases h

theorem intBits_sound {P : Program} {E : Env} {op : BinOp} {k : IntKind} {a b : Int} {v : V} (h : vbits op k a b = some v) :
    ∃ val, (Op.intBits op k a b).run P E.w = .ok val E.w ∧ RepV E v val := by
  unfold vbits at h
  split at h <;> first | (cases h; exact ⟨_, by simp [Op.intBits], .int (wrap_range _ _).1 (wrap_range _ _).2⟩) | cases h

theorem vbin_sound {P : Program} {T : TypeId} {op : BinOp} {X Y : Operand} {x y v : V} {E : Env} {xv yv : Value} (hx : RepV E x xv) (hy : RepV E y yv) (h : vbin P op T x y = some v) :
    ∃ val, ((do eqGuard op T X Y xv yv; binOp op T xv yv : Sem Value)).run P E.w = .ok val E.w ∧ RepV E v val := by
  unfold vbin at h
  split at h
  · split at h
    case isFalse => cases h
    rename_i hb
    cases h; cases hx; cases hy
    refine ⟨_, ?_, .int (wrap_range _ _).1 (wrap_range _ _).2⟩
    simp [eqGuard, binOp, Op.shift, Int.not_lt.2 hb]
  · split at h
    case isFalse => cases h
    rename_i hb
    cases h
    cases hx with
    | int l1 l2 =>
      cases hy
      refine ⟨_, ?_, .int (fdiv_range _ l1 l2).1 (fdiv_range _ l1 l2).2⟩
      simp [eqGuard, binOp, Op.shift, Int.not_lt.2 hb]
  · rename_i op' k a k' b n1 n2
    split at h
    case isFalse => cases h
    rename_i hk
    subst hk
    cases hx with
    | int l1 l2 =>
      cases hy
      have hshl : op ≠ .shl := by intro e; exact n1 e
      have hshr : op ≠ .shr := by intro e; exact n2 e
      cases op <;> simp only [vint, ne_eq, not_true_eq_false] at h hshl hshr
      case quo =>
        split at h
        · cases h
        · rename_i hb
          cases h
          exact ⟨_, by simp [eqGuard, binOp, Op.intDiv, hb], .int (wrap_range _ _).1 (wrap_range _ _).2⟩
      case rem =>
        split at h
        · cases h
        · rename_i hb
          cases h
          exact ⟨_, by simp [eqGuard, binOp, Op.intDiv, hb], .int (tmod_range l1 l2).1 (tmod_range l1 l2).2⟩
      case and => obtain ⟨val, hr, hv⟩ := intBits_sound (P := P) (E := E) h; exact ⟨val, by simpa [eqGuard, binOp] using hr, hv⟩
      case or => obtain ⟨val, hr, hv⟩ := intBits_sound (P := P) (E := E) h; exact ⟨val, by simpa [eqGuard, binOp] using hr, hv⟩
      case xor => obtain ⟨val, hr, hv⟩ := intBits_sound (P := P) (E := E) h; exact ⟨val, by simpa [eqGuard, binOp] using hr, hv⟩
      case andNot => obtain ⟨val, hr, hv⟩ := intBits_sound (P := P) (E := E) h; exact ⟨val, by simpa [eqGuard, binOp] using hr, hv⟩
      all_goals cases h
      all_goals have hbd : (a == b) = decide (a = b) := by rw [Bool.eq_iff_iff]; simp
      all_goals first
        | (refine ⟨_, ?_, .int (wrap_range _ _).1 (wrap_range _ _).2⟩; simp [eqGuard, binOp, Op.intArith]; done)
        | (refine ⟨_, ?_, .bool⟩; simp [eqGuard, binOp, Op.intCmp]; done)
        | (refine ⟨_, ?_, .bool⟩; simp [eqGuard, binOp, Op.intCmp]; first | exact hbd | simp only [bne, hbd])
  · rename_i op' a b
    cases hx with
    | str la =>
      cases hy with
      | str lb =>
        have hda : (⟨a.toArray⟩ : ByteArray).toList = a := by rw [ByteArray.toList_eq]
        have hdb : (⟨b.toArray⟩ : ByteArray).toList = b := by rw [ByteArray.toList_eq]
        have hbd : (a == b) = decide (a = b) := by rw [Bool.eq_iff_iff]; simp
        cases op <;> simp only [vstrOp] at h
        case add =>
          split at h
          case isFalse => cases h
          rename_i hle
          cases h
          refine ⟨.string ⟨(a ++ b).toArray⟩, ?_, .str (by simpa using hle)⟩
          have hsz : ¬ (((⟨a.toArray⟩ : ByteArray).size + (⟨b.toArray⟩ : ByteArray).size : Nat) : Int) > IntKind.i64.max := by
            show ¬ ((a.toArray.size + b.toArray.size : Nat) : Int) > IntKind.i64.max
            have hm : IntKind.i64.max = 9223372036854775807 := by decide
            unfold maxLen at hle
            simp only [List.size_toArray, hm]
            omega
          have happ : (⟨a.toArray⟩ : ByteArray) ++ ⟨b.toArray⟩ = ⟨(a ++ b).toArray⟩ := by
            apply ByteArray.ext
            simp
          simp only [eqGuard, binOp, Op.stringOp, hsz, happ, if_false, Sem.run_bind, Sem.run_pure, Result.andThen_ok, Bool.not_false, if_true]
        all_goals first | (cases h; exact ⟨_, by simp [eqGuard, binOp, Op.stringOp, hda, hdb, hbd], .bool⟩) | cases h
  · obtain ⟨b, hb, rfl⟩ := Option.map_eq_some_iff.1 h
    obtain ⟨h1, h2⟩ := veq_sound (P := P) hx hy hb
    refine ⟨.bool b, ?_, .bool⟩
    have hbin : binOp .eql T xv yv = (do pure (.bool (← Op.equal T xv yv))) := by
      unfold veq at hb
      split at hb
      · cases hx; cases hy; rfl
      · cases hx; cases hy; rfl
      · cases hb
    simp only [Sem.run_bind, h2, Result.andThen_ok, hbin, h1, Sem.run_pure]
  · obtain ⟨b, hb, rfl⟩ := Option.map_eq_some_iff.1 h
    obtain ⟨h1, h2⟩ := veq_sound (P := P) hx hy hb
    refine ⟨.bool !b, ?_, .bool⟩
    have hbin : binOp .neq T xv yv = (do pure (.bool (!(← Op.equal T xv yv)))) := by
      unfold veq at hb
      split at hb
      · cases hx; cases hy; rfl
      · cases hx; cases hy; rfl
      · cases hb
    simp only [Sem.run_bind, h2, Result.andThen_ok, hbin, h1, Sem.run_pure]
  · cases h

end Go.Proofs.YtbnbmcplmipgdaaGreatDoor

namespace Go.Proofs.YtbnbmcplmipgdaaGreatDoor
open Go

/-! ### unary -/
def vun (op : UnOp) (x : V) : Option V :=
  match op, x with
  | .neg, .int k n => some (.int k (k.wrap (0 - n)))
  | .not, .bool b => some (.bool !b)
  | _, _ => none

theorem vun_sound {P : Program} {op : UnOp} {x v : V} {E : Env} {xv : Value} (hx : RepV E x xv) (h : vun op x = some v) : ∃ val, (Op.unary op xv).run P E.w = .ok val E.w ∧ RepV E v val := by
  unfold vun at h
  split at h
  · cases h; cases hx
    exact ⟨_, by simp [Op.unary, Op.intArith], .int (wrap_range _ _).1 (wrap_range _ _).2⟩
  · cases h; cases hx
    exact ⟨_, by simp [Op.unary], .bool⟩
  · cases h

/-! ### conversions between integers -/
def vconv (P : Program) (U T : TypeId) (x : V) : Option V :=
  (tyOf P U).bind fun _ => (tyOf P T).bind fun t => match t.kd, x with
    | .int k, .int _ n => some (.int k (k.wrap n))
    | .string, .str s => some (.str s)
    | _, _ => none

theorem vconv_sound {P : Program} {U T : TypeId} {x v : V} {E : Env} {xv : Value} (hx : RepV E x xv) (h : vconv P U T x = some v) : ∃ val, (convert U T xv).run P E.w = .ok val E.w ∧ RepV E v val := by
  unfold vconv at h
  simp only [Option.bind_eq_some_iff] at h
  obtain ⟨u, hu, t, ht, h⟩ := h
  obtain ⟨_, d', _, hd', _⟩ := tyOf_parts hu
  obtain ⟨_, d, _, hd, hk, _⟩ := tyOf_parts ht
  split at h
  · rename_i k k' n hkd
    cases h; cases hx
    rw [hkd] at hk
    have : d = .int k := by cases d <;> simp [kdOf] at hk; rw [hk]
    subst this
    exact ⟨.int k (k.wrap n), by cases d' <;> simp [convert, run_underlying hd', run_underlying hd, Conv.intToInt], .int (wrap_range _ _).1 (wrap_range _ _).2⟩
  · rename_i s hkd
    cases h
    rw [hkd] at hk
    have : d = .string := by cases d <;> simp [kdOf] at hk; rfl
    subst this
    cases hx with
    | str hl => exact ⟨_, by cases d' <;> simp [convert, run_underlying hd', run_underlying hd], .str hl⟩
  · cases h

/-! ### addresses -/
def vfieldAddr (P : Program) (T : TypeId) (x : V) (f : Nat) : Option V :=
  (tyOf P T).bind fun t => match t.kd with
    | .struct fs _ => (fs[f]?).bind fun fi => if fi.size = 0 then none else match x with
      | .ptr l off => some (.ptr l (off + fi.off))
      | .eptr cs off => some (.eptr cs (off + fi.off))
      | _ => none
    | _ => none

theorem vfieldAddr_sound {P : Program} {T : TypeId} {f : Nat} {x v : V} {E : Env} {xv : Value} (hx : RepV E x xv) (h : vfieldAddr P T x f = some v) :
    ∃ val, (Instr.fieldAt T xv f).run P E.w = .ok val E.w ∧ RepV E v val := by
  simp only [vfieldAddr, Option.bind_eq_some_iff] at h
  obtain ⟨t, ht, h⟩ := h
  obtain ⟨_, d, _, hd, hk, _⟩ := tyOf_parts ht
  cases hkd : t.kd with
  | struct fs b =>
    rw [hkd] at hk h
    simp only [Option.bind_eq_some_iff] at h
    obtain ⟨fi, hfi, h⟩ := h
    split at h
    · cases h
    rename_i hsz
    cases d <;> simp [kdOf] at hk
    rename_i flds _
    obtain ⟨l, hl, ⟨rfl, _⟩⟩ := hk
    obtain ⟨fld, hfld, hof⟩ := fieldsOf_get hl hfi
    simp only [fieldOf, Option.bind_eq_some_iff, Option.map_eq_some_iff] at hof
    obtain ⟨i, hi, d, hd2, rfl⟩ := hof
    have hfld' : flds[f]? = some fld := by simpa using hfld
    have key : ∀ g o, (Instr.fieldAt T (.pointer (some ⟨g, o, none⟩)) f).run P E.w = .ok (.pointer (some ⟨g, o + fld.offset, none⟩)) E.w := by
      intro g o
      simp only at hsz
      simp [Instr.fieldAt, run_underlying hd, hfld', Instr.sureAddr, fieldPlace, run_sizeOf' hi, hsz, add_eq]
    cases hx with
    | ptr hg => cases h; exact ⟨_, key _ _, .ptr hg⟩
    | eptr r sg => cases h; exact ⟨_, key _ _, by rw [Nat.add_assoc]; exact .eptr r sg⟩
    | _ => simp at h
  | _ => rw [hkd] at h; simp at h

theorem flat_uniform {xs : List V} {sz : Nat} (h : ∀ x ∈ xs, x.cells.length = sz) : (V.flat xs).length = xs.length * sz := by
  induction xs with
  | nil => simp [V.flat]
  | cons x xs ih =>
    have h1 := h x (by simp)
    have h2 := ih (fun y hy => h y (by simp [hy]))
    simp only [V.flat, List.flatMap_cons, List.length_append, List.length_cons] at *
    rw [h1, h2, Nat.add_mul]
    omega

theorem flat_drop {xs : List V} {sz : Nat} (h : ∀ x ∈ xs, x.cells.length = sz) : ∀ (i : Nat), (V.flat xs).drop (i * sz) = V.flat (xs.drop i) := by
  induction xs with
  | nil => intro i; simp [V.flat]
  | cons x xs ih =>
    intro i
    have h1 := h x (by simp)
    cases i with
    | zero => simp
    | succ i =>
      have h2 := ih (fun y hy => h y (by simp [hy])) i
      rw [Nat.add_mul, Nat.one_mul, List.drop_succ_cons, ← h2, Nat.add_comm, ← List.drop_drop]
      congr 1
      have e : V.flat (x :: xs) = x.cells ++ V.flat xs := by simp [V.flat]
      rw [e, ← h1, List.drop_left]

theorem flat_take {xs : List V} {sz : Nat} (h : ∀ x ∈ xs, x.cells.length = sz) : ∀ (i : Nat), (V.flat xs).take (i * sz) = V.flat (xs.take i) := by
  induction xs with
  | nil => intro i; simp [V.flat]
  | cons x xs ih =>
    intro i
    have h1 := h x (by simp)
    cases i with
    | zero => simp [V.flat]
    | succ i =>
      have h2 := ih (fun y hy => h y (by simp [hy])) i
      have e : V.flat (x :: xs) = x.cells ++ V.flat xs := by simp [V.flat]
      have e2 : V.flat (x :: xs.take i) = x.cells ++ V.flat (xs.take i) := by simp [V.flat]
      rw [List.take_succ_cons, e, e2, List.take_append, Nat.add_mul, Nat.one_mul, h1, ← h2]
      congr 1
      · exact List.take_of_length_le (by omega)
      · congr 1
        omega

theorem Seg.drop {E : Env} {g off : Nat} {vals : List Value} (h : Seg E g off vals) (n : Nat) : Seg E g (off + n) (vals.drop n) := by
  intro j v hj
  rw [List.getElem?_drop] at hj
  have := h _ _ hj
  rwa [← Nat.add_assoc] at this

theorem Seg.take {E : Env} {g off : Nat} {vals : List Value} (h : Seg E g off vals) (n : Nat) : Seg E g off (vals.take n) := by
  intro j v hj
  rw [List.getElem?_take] at hj
  split at hj
  · exact h j v hj
  · cases hj

def vindexAddr (P : Program) (T : TypeId) (x i : V) : Option V :=
  (tyOf P T).bind fun t => match t.kd with
    | .slice e => (tyOf P e).bind fun te => match x, i with
      | .sl _ xs, .int _ n => if 0 ≤ n then (xs[n.toNat]?).bind fun y => if y.cells.length = te.size then some (.eptr y.cells 0) else none else none
      | .slm _ l off len, .int _ n => if 0 ≤ n ∧ n < len then some (.ptr l (off + n.toNat * te.size)) else none
      | _, _ => none
    | _ => none

theorem vindexAddr_sound {P : Program} {T : TypeId} {x i v : V} {E : Env} {xv iv : Value} (hx : RepV E x xv) (hi : RepV E i iv) (h : vindexAddr P T x i = some v) :
    ∃ val, (Instr.indexAt T xv iv).run P E.w = .ok val E.w ∧ RepV E v val := by
  simp only [vindexAddr, Option.bind_eq_some_iff] at h
  obtain ⟨t, ht, h⟩ := h
  obtain ⟨_, d, _, hd, hk, _⟩ := tyOf_parts ht
  cases hkd : t.kd with
  | slice e =>
    rw [hkd] at hk h
    simp only [Option.bind_eq_some_iff] at h
    obtain ⟨te, hte, h⟩ := h
    obtain ⟨ie, _, hie, _, _, hse, _⟩ := tyOf_parts hte
    have hd' : d = .slice e := by cases d <;> simp [kdOf] at hk; rw [hk]
    subst hd'
    have key : ∀ g o len cap (k : IntKind) (n : Int), 0 ≤ n → n < (len : Nat) → (Instr.indexAt T (.slice (some ⟨g, o, none⟩) len cap) (.int k n)).run P E.w = .ok (.pointer (some ⟨g, o + n.toNat * ie.size, none⟩)) E.w := by
      intro g o len cap k n h0 h1
      simp [Instr.indexAt, asIntOf, run_underlying hd, run_sizeOf' hie, h0, h1, add_eq]
    split at h
    · split at h
      case isFalse => cases h
      rename_i h0
      simp only [Option.bind_eq_some_iff] at h
      obtain ⟨y, hy, h⟩ := h
      split at h
      case isFalse => cases h
      rename_i hyl
      cases h
      cases hi
      rename_i id xs k n _ _
      have hlt : n.toNat < xs.length := (List.getElem?_eq_some_iff.1 hy).1
      cases hx with
      | @sl id' xs' vals g off cap sz a b c r s f =>
        refine ⟨_, key _ _ _ _ _ _ h0 (by omega), ?_⟩
        have hsz : sz = te.size := by rw [← hyl]; exact (a y (List.mem_of_getElem? hy)).symm
        subst hsz
        have hd1 : y.cells = ((V.flat xs).drop (n.toNat * te.size)).take te.size := by
          rw [flat_drop a]
          have e1 : xs.drop n.toNat = y :: xs.drop (n.toNat + 1) := by
            rw [List.drop_eq_getElem_cons hlt]
            rw [List.getElem?_eq_getElem hlt] at hy
            cases hy
            rfl
          rw [e1, ← hyl]
          simp [V.flat]
        rw [← hse, hd1]
        have := RepV.eptr (k := 0) ((r.drop (n.toNat * te.size)).take te.size) ((s.drop (n.toNat * te.size)).take te.size)
        simpa using this
      | slz => simp at hlt
    · split at h
      case isFalse => cases h
      rename_i h0
      cases h
      cases hi
      cases hx with
      | slm hl _ _ _ => exact ⟨_, key _ _ _ _ _ _ h0.1 h0.2, by rw [← hse]; exact .ptr hl⟩
      | slm0 => omega
    · cases h
  | _ => rw [hkd] at h; simp at h

/-! ### fields and parts of values; strings by index -/
def vfield (P : Program) (T : TypeId) (x : V) (f : Nat) : Option V :=
  (tyOf P T).bind fun t => match t.kd, x with
    | .struct fs _, .agg cs => (fs[f]?).bind fun fi => takeV cs fi.off fi.size fi.agg
    | _, _ => none

theorem vfield_sound {P : Program} {T : TypeId} {f : Nat} {x v : V} {E : Env} {xv : Value} (hx : RepV E x xv) (h : vfield P T x f = some v) :
    ∃ val, (Instr.field T xv f).run P E.w = .ok val E.w ∧ RepV E v val := by
  simp only [vfield, Option.bind_eq_some_iff] at h
  obtain ⟨t, ht, h⟩ := h
  obtain ⟨_, d, _, hd, hk, _⟩ := tyOf_parts ht
  split at h
  · rename_i fs b cs hkd
    rw [hkd] at hk
    simp only [Option.bind_eq_some_iff] at h
    obtain ⟨fi, hfi, h⟩ := h
    cases d <;> simp [kdOf] at hk
    rename_i flds _
    obtain ⟨l, hl, ⟨rfl, _⟩⟩ := hk
    obtain ⟨fld, hfld, hof⟩ := fieldsOf_get hl hfi
    simp only [fieldOf, Option.bind_eq_some_iff, Option.map_eq_some_iff] at hof
    obtain ⟨i, hi, d, hd2, rfl⟩ := hof
    have hfld' : flds[f]? = some fld := by simpa using hfld
    cases hx with
    | @agg cs vals r =>
      simp only [Instr.field, Sem.run_bind, run_underlying hd, Result.andThen_ok, hfld', asAgg, Sem.run_pure, part, run_isAgg hd2]
      simp only [takeV] at h
      split at h
      case isFalse => cases h
      rename_i hle
      split at h
      · rename_i ha
        cases h
        have e1 : vals.toArray.extract fld.offset (fld.offset + i.size) = ((vals.drop fld.offset).take i.size).toArray := by
          apply Array.ext'
          simp [List.take_drop]
        refine ⟨.agg (vals.toArray.extract fld.offset (fld.offset + i.size)), by simp [ha, run_sizeOf' hi], ?_⟩
        rw [e1]
        exact .agg ((r.drop _).take _)
      · rename_i ha
        obtain ⟨val, hv, hrep⟩ := r.get h
        refine ⟨val, ?_, hrep⟩
        simp [ha, hv]
  · cases h

def vindex (P : Program) (T : TypeId) (x i : V) : Option V :=
  (tyOf P T).bind fun t => match t.kd, x, i with
    | .string, .str s, .int _ n => if 0 ≤ n then (s[n.toNat]?).map fun b => .int .u8 b.toNat else none
    | _, _, _ => none

theorem vindex_sound {P : Program} {T : TypeId} {x i v : V} {E : Env} {xv iv : Value} (hx : RepV E x xv) (hi : RepV E i iv) (h : vindex P T x i = some v) :
    ∃ val, (Instr.index T xv iv).run P E.w = .ok val E.w ∧ RepV E v val := by
  simp only [vindex, Option.bind_eq_some_iff] at h
  obtain ⟨t, ht, h⟩ := h
  obtain ⟨_, d, _, hd, hk, _⟩ := tyOf_parts ht
  split at h
  · rename_i s k n hkd
    split at h
    case isFalse => cases h
    rename_i h0
    obtain ⟨b, hb, rfl⟩ := Option.map_eq_some_iff.1 h
    rw [hkd] at hk
    have : d = .string := by cases d <;> simp [kdOf] at hk; rfl
    subst this
    cases hi
    cases hx
    have hlt : n.toNat < s.length := (List.getElem?_eq_some_iff.1 hb).1
    have hb' : (⟨s.toArray⟩ : ByteArray)[n.toNat]? = some b := by
      have hs : n.toNat < (⟨s.toArray⟩ : ByteArray).size := by simpa [ByteArray.size] using hlt
      rw [getElem?_pos (⟨s.toArray⟩ : ByteArray) n.toNat hs]
      rw [List.getElem?_eq_getElem hlt] at hb
      cases hb
      rfl
    refine ⟨.int .u8 b.toNat, ?_, .int (by simp [IntKind.min, IntKind.signed]) ?_⟩
    · simp [Instr.index, asIntOf, run_underlying hd, h0, hb']
    · have := b.toNat_lt
      simp [IntKind.max, IntKind.signed, IntKind.bits]
      omega
  · cases h

/-! ### slices of strings and of slices -/
def bound (x : Option V) (dflt : Nat) : Option Nat :=
  match x with
  | none => some dflt
  | some (.int _ n) => if 0 ≤ n then some n.toNat else none
  | _ => none

def vslice (P : Program) (T : TypeId) (x : V) (lo hi mx : Option V) : Option V :=
  (tyOf P T).bind fun t => match t.kd, x, mx with
    | .string, .str s, none => (bound lo 0).bind fun l => (bound hi s.length).bind fun h => if l ≤ h ∧ h ≤ s.length then some (.str ((s.drop l).take (h - l))) else none
    | .slice e, .sl _ xs, none => (tyOf P e).bind fun te => (bound lo 0).bind fun l => (bound hi xs.length).bind fun h =>
      if l ≤ h ∧ h ≤ xs.length ∧ (l = 0 ∨ (xs.all fun x => decide (x.cells.length = te.size)) = true) then some (.sl 0 ((xs.drop l).take (h - l))) else none
    | .slice e, .nilsl, _ => (tyOf P e).bind fun _ => (bound lo 0).bind fun l => (bound hi 0).bind fun h => (bound mx 0).bind fun m => if l = 0 ∧ h = 0 ∧ m = 0 ∧ (hi.isSome || mx.isNone) = true then some .nilsl else none
    | .slice e, .sl _ xs, some m => (tyOf P e).bind fun _ => (bound lo 0).bind fun l => (bound hi xs.length).bind fun h => (bound (some m) 0).bind fun m => if l = 0 ∧ h = 0 ∧ m = 0 ∧ hi.isSome = true then some .zsl else none
    | _, _, _ => none

def RepO (E : Env) : Option V → Option Value → Prop
  | none, none => True
  | some v, some val => RepV E v val
  | _, _ => False

theorem run_sliceBound {P : Program} {E : Env} {x : V} {xv : Value} (hx : RepV E x xv) {d n : Nat} (h : bound (some x) d = some n) {y : Nat} (hy : n ≤ y) (c : BoundsCode) :
    (Instr.sliceBound xv y c).run P E.w = .ok n E.w := by
  unfold bound at h
  split at h
  · cases ‹some x = none›
  · rename_i k m e
    cases e
    split at h
    case isFalse => cases h
    cases h
    cases hx
    have : m ≤ (y : Int) := by omega
    simp [Instr.sliceBound, asIntOf, *]
  · cases h

theorem run_sliceBounds2 {P : Program} {E : Env} {lo hi : Option V} {lv hv : Option Value} (hlo : RepO E lo lv) (hhi : RepO E hi hv) {len cap l h : Nat} (e1 : bound lo 0 = some l) (e2 : bound hi len = some h)
    (h1 : l ≤ h) (h2 : h ≤ len) (h3 : len ≤ cap) (b : Bool) : (Instr.sliceBounds b len cap lv hv none).run P E.w = .ok (l, h, cap) E.w := by
  unfold Instr.sliceBounds
  cases hi with
  | none =>
    cases hv with
    | some _ => exact absurd hhi (by simp [RepO])
    | none =>
      cases e2
      cases lo with
      | none => cases lv with
        | some _ => exact absurd hlo (by simp [RepO])
        | none => cases e1; simp
      | some x => cases lv with
        | none => exact absurd hlo (by simp [RepO])
        | some xv => simp [run_sliceBound (P := P) hlo e1 h1]
  | some y =>
    cases hv with
    | none => exact absurd hhi (by simp [RepO])
    | some yv =>
      have k1 := run_sliceBound (P := P) hhi e2 (y := cap) (by omega)
      cases lo with
      | none => cases lv with
        | some _ => exact absurd hlo (by simp [RepO])
        | none => cases e1; simp [k1]
      | some x => cases lv with
        | none => exact absurd hlo (by simp [RepO])
        | some xv => simp [k1, run_sliceBound (P := P) hlo e1 h1]

theorem run_sliceBounds0 {P : Program} {E : Env} {lo hi mx : Option V} {lv hv mv : Option Value} (hlo : RepO E lo lv) (hhi : RepO E hi hv) (hmx : RepO E mx mv) {len cap a : Nat} (e1 : bound lo 0 = some 0) (e2 : bound hi len = some 0)
    (e3 : bound mx a = some 0) (hh : hi = none → mx = none) (hc : mx = none → cap = 0) (b : Bool) : (Instr.sliceBounds b len cap lv hv mv).run P E.w = .ok (0, 0, 0) E.w := by
  unfold Instr.sliceBounds
  cases mx with
  | none =>
    cases mv with
    | some _ => exact absurd hmx (by simp [RepO])
    | none =>
      have := hc rfl
      subst this
      cases hi with
      | none => cases hv with
        | some _ => exact absurd hhi (by simp [RepO])
        | none =>
          cases e2
          cases lo with
          | none => cases lv with
            | some _ => exact absurd hlo (by simp [RepO])
            | none => simp
          | some x => cases lv with
            | none => exact absurd hlo (by simp [RepO])
            | some xv => simp [run_sliceBound (P := P) hlo e1 (Nat.le_refl 0)]
      | some y => cases hv with
        | none => exact absurd hhi (by simp [RepO])
        | some yv =>
          have k1 := run_sliceBound (P := P) hhi e2 (Nat.le_refl 0)
          cases lo with
          | none => cases lv with
            | some _ => exact absurd hlo (by simp [RepO])
            | none => simp [k1]
          | some x => cases lv with
            | none => exact absurd hlo (by simp [RepO])
            | some xv => simp [k1, run_sliceBound (P := P) hlo e1 (Nat.le_refl 0)]
  | some m =>
    cases mv with
    | none => exact absurd hmx (by simp [RepO])
    | some mval =>
      have k0 := run_sliceBound (P := P) hmx e3 (Nat.zero_le cap)
      cases hi with
      | none => cases hh rfl
      | some y => cases hv with
        | none => exact absurd hhi (by simp [RepO])
        | some yv =>
          have k1 := run_sliceBound (P := P) hhi e2 (Nat.le_refl 0)
          cases lo with
          | none => cases lv with
            | some _ => exact absurd hlo (by simp [RepO])
            | none => simp [k0, k1]
          | some x => cases lv with
            | none => exact absurd hlo (by simp [RepO])
            | some xv => simp [k0, k1, run_sliceBound (P := P) hlo e1 (Nat.le_refl 0)]

end Go.Proofs.YtbnbmcplmipgdaaGreatDoor

namespace Go.Proofs.YtbnbmcplmipgdaaGreatDoor
open Go

theorem vslice_sound {P : Program} {T : TypeId} {x v : V} {lo hi mx : Option V} {lv hv mv : Option Value} {E : Env} {xv : Value} (hx : RepV E x xv) (hlo : RepO E lo lv) (hhi : RepO E hi hv) (hmx : RepO E mx mv)
    (h : vslice P T x lo hi mx = some v) : ∃ val, (Instr.sliceAt T xv lv hv mv).run P E.w = .ok val E.w ∧ RepV E v val := by
  simp only [vslice, Option.bind_eq_some_iff] at h
  obtain ⟨t, ht, h⟩ := h
  obtain ⟨_, d, _, hd, hk, _⟩ := tyOf_parts ht
  split at h
  · rename_i s hkd
    simp only [Option.bind_eq_some_iff] at h
    obtain ⟨l, hl, n, hn, h⟩ := h
    split at h
    case isFalse => cases h
    rename_i hc
    cases h
    rw [hkd] at hk
    have : d = .string := by cases d <;> simp [kdOf] at hk; rfl
    subst this
    have hmv : mv = none := by cases mv with | none => rfl | some _ => exact absurd hmx (by simp [RepO])
    subst hmv
    cases hx with
    | str hlen =>
      have k := run_sliceBounds2 (P := P) hlo hhi hl hn hc.1 hc.2 (Nat.le_refl _) false
      have hsz : (⟨s.toArray⟩ : ByteArray).size = s.length := by simp [ByteArray.size]
      refine ⟨.string ⟨((s.drop l).take (n - l)).toArray⟩, ?_, .str (by simp; omega)⟩
      have hex : (⟨s.toArray⟩ : ByteArray).extract l n = ⟨((s.drop l).take (n - l)).toArray⟩ := by
        apply ByteArray.ext
        rw [ByteArray.data_extract]
        apply Array.ext'
        simp [List.take_drop]
      simp only [Instr.sliceAt, Sem.run_bind, run_underlying hd, Result.andThen_ok, Instr.slice, Option.isSome_none, Bool.false_eq_true, if_false, Sem.run_pure, hsz, k, hex]
  · rename_i e id xs hkd
    simp only [Option.bind_eq_some_iff] at h
    obtain ⟨te, hte, l, hl, n, hn, h⟩ := h
    split at h
    case isFalse => cases h
    rename_i hc
    cases h
    obtain ⟨ie, _, hie, _, _, hse, _⟩ := tyOf_parts hte
    rw [hkd] at hk
    have : d = .slice e := by cases d <;> simp [kdOf] at hk; rw [hk]
    subst this
    have hmv : mv = none := by cases mv with | none => rfl | some _ => exact absurd hmx (by simp [RepO])
    subst hmv
    obtain ⟨c1, c2, c3⟩ := hc
    cases hx with
    | @sl id' xs' vals g off cap sz a b c r sg f =>
      have k := run_sliceBounds2 (P := P) hlo hhi hl hn c1 c2 b true
      refine ⟨.slice (if cap = l then some ⟨g, off, none⟩ else some ⟨g, off + l * ie.size, none⟩) (n - l) (cap - l), ?_, ?_⟩
      · simp only [Instr.sliceAt, Sem.run_bind, run_underlying hd, Result.andThen_ok, Instr.slice, k, run_sizeOf' hie, Sem.run_pure, Option.map_some, add_eq]
      · have hlen : ((xs.drop l).take (n - l)).length = n - l := by simp; omega
        by_cases hz : n = l
        · subst hz
          have e1 : (xs.drop n).take (n - n) = [] := by simp
          rw [e1, Nat.sub_self]
          by_cases hz2 : cap = n
          · rw [hz2, Nat.sub_self]; exact .slz (.inl rfl)
          · rw [if_neg hz2]
            have := RepV.sl (E := E) (id := 0) (xs := []) (vals := []) (g := g) (off := off + n * ie.size) (cap := cap - n) (sz := sz) (by simp) (by simp) (by omega) (by simpa [V.flat] using RepL.nil) (by intro j v hj; simp at hj) (.inl rfl)
            simpa using this
        · have hne : cap ≠ l := by omega
          have hoff : l * ie.size = l * sz := by
            rcases c3 with e0 | e0
            · simp [e0]
            · have hx0 : xs[l]'(by omega) ∈ xs := List.getElem_mem _
              have := List.all_eq_true.1 e0 _ hx0
              rw [← hse, ← of_decide_eq_true this, a _ hx0]
          rw [if_neg hne, hoff]
          have e2 : V.flat ((xs.drop l).take (n - l)) = ((V.flat xs).drop (l * sz)).take ((n - l) * sz) := by
            rw [flat_drop a, flat_take (fun x hx => a x (List.mem_of_mem_drop hx))]
          have e3 := RepV.sl (E := E) (id := 0) (xs := (xs.drop l).take (n - l)) (vals := (vals.drop (l * sz)).take ((n - l) * sz)) (g := g) (off := off + l * sz) (cap := cap - l) (sz := sz)
            (fun x hx => a x (List.mem_of_mem_drop (List.mem_of_mem_take hx))) (by rw [hlen]; omega) (by omega) (by rw [e2]; exact (r.drop _).take _) ((sg.drop _).take _) (.inl rfl)
          rw [hlen] at e3
          exact e3
    | slz f =>
      simp at c2
      subst c2
      have c1' : l = 0 := by omega
      subst c1'
      have k := run_sliceBounds2 (P := P) hlo hhi hl (show bound hi 0 = some 0 from hn) (Nat.le_refl 0) (Nat.le_refl 0) (Nat.le_refl 0) true
      refine ⟨_, by simp only [Instr.sliceAt, Sem.run_bind, run_underlying hd, Result.andThen_ok, Instr.slice, k, run_sizeOf' hie, Sem.run_pure]; rfl, ?_⟩
      simpa using RepV.slz (E := E) (id := 0) (.inl rfl)
  · rename_i e hkd
    simp only [Option.bind_eq_some_iff] at h
    obtain ⟨te, hte, l, hl, n, hn, m, hm, h⟩ := h
    split at h
    case isFalse => cases h
    rename_i hc
    cases h
    obtain ⟨ie, _, hie, _, _, hse, _⟩ := tyOf_parts hte
    rw [hkd] at hk
    have : d = .slice e := by cases d <;> simp [kdOf] at hk; rw [hk]
    subst this
    obtain ⟨rfl, rfl, rfl, c4⟩ := hc
    cases hx with
    | nilsl =>
      have k := run_sliceBounds0 (P := P) hlo hhi hmx (len := 0) (cap := 0) hl hn hm (fun e1 => by subst e1; simpa using c4) (fun _ => rfl) true
      refine ⟨_, by simp only [Instr.sliceAt, Sem.run_bind, run_underlying hd, Result.andThen_ok, Instr.slice, k, run_sizeOf' hie, Sem.run_pure]; rfl, ?_⟩
      simpa using RepV.nilsl
  · rename_i e id xs m0 hkd
    simp only [Option.bind_eq_some_iff] at h
    obtain ⟨te, hte, l, hl, n, hn, m, hm, h⟩ := h
    split at h
    case isFalse => cases h
    rename_i hc
    cases h
    obtain ⟨ie, _, hie, _, _, hse, _⟩ := tyOf_parts hte
    rw [hkd] at hk
    have : d = .slice e := by cases d <;> simp [kdOf] at hk; rw [hk]
    subst this
    obtain ⟨rfl, rfl, rfl, c4⟩ := hc
    cases hx with
    | @sl id' xs' vals g off cap sz a b c r sg f =>
      have k := run_sliceBounds0 (P := P) hlo hhi hmx (len := xs.length) (cap := cap) hl hn hm (fun e1 => by subst e1; simp at c4) (fun e => by cases e) true
      refine ⟨_, by simp only [Instr.sliceAt, Sem.run_bind, run_underlying hd, Result.andThen_ok, Instr.slice, k, run_sizeOf' hie, Sem.run_pure]; rfl, ?_⟩
      simpa using RepV.zsl
    | slz f =>
      have k := run_sliceBounds0 (P := P) hlo hhi hmx (len := 0) (cap := 0) hl (show bound hi 0 = some 0 from hn) hm (fun e1 => by subst e1; simp at c4) (fun _ => rfl) true
      refine ⟨_, by simp only [Instr.sliceAt, Sem.run_bind, run_underlying hd, Result.andThen_ok, Instr.slice, k, run_sizeOf' hie, Sem.run_pure]; rfl, ?_⟩
      simpa using RepV.zsl
  · cases h

/-! ### len, max, min, extract, functions -/
def vlen (P : Program) (T : TypeId) (x : V) : Option V :=
  (tyOf P T).bind fun t => match t.kd, x with
    | .string, .str s => some (.int .i64 s.length)
    | .slice _, .sl _ xs => some (.int .i64 xs.length)
    | .slice _, .nilsl => some (.int .i64 0)
    | .slice _, .zsl => some (.int .i64 0)
    | .slice _, .slm _ _ _ n => some (.int .i64 n)
    | _, _ => none

theorem len_rep {E : Env} {n : Nat} (h : n ≤ maxLen) : RepV E (.int .i64 n) (.int .i64 n) := by
  have h1 : IntKind.i64.min = -9223372036854775808 := by decide
  have h2 : IntKind.i64.max = 9223372036854775807 := by decide
  unfold maxLen at h
  exact .int (by rw [h1]; omega) (by rw [h2]; omega)

theorem vlen_sound {P : Program} {T ty : TypeId} {x v : V} {E : Env} {xv : Value} (hx : RepV E x xv) (h : vlen P T x = some v) :
    ∃ val, (Builtin.len_ #[T] ty #[xv]).run P E.w = .ok val E.w ∧ RepV E v val := by
  simp only [vlen, Option.bind_eq_some_iff] at h
  obtain ⟨t, ht, h⟩ := h
  obtain ⟨_, d, _, hd, hk, _⟩ := tyOf_parts ht
  split at h
  · rename_i s hkd
    cases h
    rw [hkd] at hk
    have : d = .string := by cases d <;> simp [kdOf] at hk; rfl
    subst this
    cases hx with
    | str hl => exact ⟨_, by simp [Builtin.len_, run_underlying hd, goInt]; rfl, by simpa [ByteArray.size] using len_rep hl⟩
  all_goals first | (cases h; done) | skip
  all_goals
    rename_i hkd
    rw [hkd] at hk
    cases h
  · rename_i e id xs
    have hd' : d = .slice e := by cases d <;> simp [kdOf] at hk; rw [hk]
    subst hd'
    cases hx with
    | sl a b c => exact ⟨_, by simp [Builtin.len_, run_underlying hd, goInt], len_rep (by omega)⟩
    | slz => exact ⟨_, by simp [Builtin.len_, run_underlying hd, goInt], len_rep (Nat.zero_le _)⟩
  · rename_i e
    have hd' : d = .slice e := by cases d <;> simp [kdOf] at hk; rw [hk]
    subst hd'
    cases hx
    exact ⟨_, by simp [Builtin.len_, run_underlying hd, goInt], len_rep (Nat.zero_le _)⟩
  · rename_i e
    have hd' : d = .slice e := by cases d <;> simp [kdOf] at hk; rw [hk]
    subst hd'
    cases hx
    exact ⟨_, by simp [Builtin.len_, run_underlying hd, goInt], len_rep (Nat.zero_le _)⟩
  · rename_i e x l o n
    have hd' : d = .slice e := by cases d <;> simp [kdOf] at hk; rw [hk]
    subst hd'
    cases hx with
    | slm a b c _ => exact ⟨_, by simp [Builtin.len_, run_underlying hd, goInt], len_rep (by omega)⟩
    | slm0 => exact ⟨_, by simp [Builtin.len_, run_underlying hd, goInt], len_rep (by omega)⟩

def vmax (x y : V) : Option V :=
  match x, y with
  | .int k a, .int k' b => if k = k' then some (.int k (if b > a then b else a)) else none
  | _, _ => none

theorem vmax_sound {P : Program} {x y v : V} {ty : TypeId} {A : Array TypeId} {E : Env} {xv yv : Value} (hx : RepV E x xv) (hy : RepV E y yv) (h : vmax x y = some v) :
    ∃ val, (Builtin.max_ A ty #[xv, yv]).run P E.w = .ok val E.w ∧ RepV E v val := by
  unfold vmax at h
  split at h
  · split at h
    case isFalse => cases h
    rename_i hk
    subst hk
    cases h
    cases hx with
    | int l1 l2 => cases hy with
      | int m1 m2 =>
        refine ⟨_, by simp [Builtin.max_, Builtin.max2]; rfl, ?_⟩
        split
        · exact .int m1 m2
        · exact .int l1 l2
  · cases h

def vmin (x y : V) : Option V :=
  match x, y with
  | .int k a, .int k' b => if k = k' then some (.int k (if b < a then b else a)) else none
  | _, _ => none

theorem vmin_sound {P : Program} {x y v : V} {ty : TypeId} {A : Array TypeId} {E : Env} {xv yv : Value} (hx : RepV E x xv) (hy : RepV E y yv) (h : vmin x y = some v) :
    ∃ val, (Builtin.min_ A ty #[xv, yv]).run P E.w = .ok val E.w ∧ RepV E v val := by
  unfold vmin at h
  split at h
  · split at h
    case isFalse => cases h
    rename_i hk
    subst hk
    cases h
    cases hx with
    | int l1 l2 => cases hy with
      | int m1 m2 =>
        refine ⟨_, by simp [Builtin.min_, Builtin.min2]; rfl, ?_⟩
        split
        · exact .int m1 m2
        · exact .int l1 l2
  · cases h

def vextract (x : V) (i : Nat) : Option V :=
  match x with
  | .tup vs => vs[i]?
  | _ => none

theorem vextract_sound {P : Program} {x v : V} {i : Nat} {E : Env} {xv : Value} (hx : RepV E x xv) (h : vextract x i = some v) : ∃ val, (Instr.extract xv i).run P E.w = .ok val E.w ∧ RepV E v val := by
  unfold vextract at h
  split at h
  · cases hx with
    | tup r =>
      obtain ⟨val, hv, hr⟩ := r.get h
      exact ⟨val, by simp [Instr.extract, hv], hr⟩
  · cases h

/-! ### structs and slices built -/
def vfill (place : Nat → Option (Nat × Nat)) (cells : List V) : List (Nat × V) → Option (List V)
  | [] => some cells
  | (i, v) :: rest => (place i).bind fun p => if v.cells.length = p.2 ∧ p.1 + p.2 ≤ cells.length then vfill place (splice cells p.1 v.cells) rest else none

theorem foldl_set (cs : List Value) : ∀ (off k : Nat) (A : Array Value), off + k + cs.length ≤ A.size →
    (cs.zipIdx k).foldl (fun a x => a.setIfInBounds (off + x.2) x.1) A = (A.toList.take (off + k) ++ cs ++ A.toList.drop (off + k + cs.length)).toArray := by
  induction cs with
  | nil => intro off k A _; simp
  | cons c cs ih =>
    intro off k A h
    simp only [List.length_cons] at *
    rw [List.zipIdx_cons, List.foldl_cons, ih off (k + 1) _ (by simp only [Array.size_setIfInBounds]; omega)]
    simp only [Array.toList_setIfInBounds]
    have := list_seg_step A.toList (off + k) c cs (by simp only [Array.length_toList]; omega)
    rw [← Nat.add_assoc] at this ⊢
    rw [this]
    rfl

inductive RepP (E : Env) : List (Nat × V) → List (Nat × Value) → Prop
  | nil : RepP E [] []
  | cons {i v val ps qs} : RepV E v val → RepP E ps qs → RepP E ((i, v) :: ps) ((i, val) :: qs)

theorem vfill_sound {E : Env} {place : Nat → Option (Nat × Nat)} : ∀ {parts : List (Nat × V)} {pv : List (Nat × Value)} {cells cs : List V} {cv : List Value}, RepP E parts pv →
    RepL E cells cv → vfill place cells parts = some cs → ∃ A, Instr.fill place cv.toArray pv = some A ∧ RepL E cs A.toList := by
  intro parts
  induction parts with
  | nil => intro pv cells cs cv hp r h; cases hp; cases h; exact ⟨_, rfl, by simpa using r⟩
  | cons p parts ih =>
    intro pv cells cs cv hp r h
    cases hp with
    | @cons i v val _ qs hv hps =>
      simp only [vfill, Option.bind_eq_some_iff] at h
      obtain ⟨⟨off, size⟩, hpl, h⟩ := h
      split at h
      case isFalse => cases h
      rename_i hc
      simp only at hc
      obtain ⟨c1, c2⟩ := hc
      have hvc := hv.cells
      have l1 := hvc.length
      have l2 := r.length
      have hrep : RepL E (splice cells off v.cells) (cv.take off ++ val.cells.toList ++ cv.drop (off + val.cells.toList.length)) := by
        unfold splice
        rw [l1]
        exact ((r.take off).append hvc).append (r.drop _)
      obtain ⟨A, hA, hAr⟩ := ih hps hrep h
      refine ⟨A, ?_, hAr⟩
      have hzip : ∀ A : Array Value, Array.foldl (fun a x => a.setIfInBounds (off + x.2) x.1) A val.cells.zipIdx = (val.cells.toList.zipIdx 0).foldl (fun a x => a.setIfInBounds (off + x.2) x.1) A := fun A => by
        rw [← Array.foldl_toList, Array.toList_zipIdx]
      have hfold := foldl_set val.cells.toList off 0 cv.toArray (by simp only [Nat.add_zero, List.size_toArray]; omega)
      simp only [Nat.add_zero] at hfold
      have hb1 : val.cells.size = size := by simp only [Array.length_toList] at l1; omega
      have hb2 : ¬ (off + size > cv.toArray.size) := by simp only [List.size_toArray]; omega
      simp only [Instr.fill, hpl]
      rw [if_neg (by rw [hb1]; simpa using hb2), hzip, hfold]
      exact hA

end Go.Proofs.YtbnbmcplmipgdaaGreatDoor

namespace Go.Proofs.YtbnbmcplmipgdaaGreatDoor
open Go

/-! ### structs built -/
def placeS (fs : List FieldI) (i : Nat) : Option (Nat × Nat) := (fs[i]?).map fun f => (f.off, f.size)

def vbuild (P : Program) (T : TypeId) (parts : List (Nat × V)) : Option V :=
  (tyOf P T).bind fun t => match t.kd with
    | .struct fs _ => if t.zero.length = t.size ∧ 0 < t.size then (vfill (placeS fs) t.zero parts).map .agg else none
    | _ => none

theorem fieldsOf_length {P : Program} : ∀ {fs : List Field} {l : List FieldI}, fieldsOf P fs = some l → l.length = fs.length
  | [], l, h => by cases h; rfl
  | f :: fs, l, h => by
    simp only [fieldsOf, Option.bind_eq_some_iff, Option.map_eq_some_iff] at h
    obtain ⟨x, hx, r, hr, rfl⟩ := h
    simp [fieldsOf_length hr]

theorem run_places {P : Program} {w : World} : ∀ {fs : List Field} {l : List FieldI}, fieldsOf P fs = some l →
    (fs.mapM (fun f => do pure (f.offset, ← sizeOf f.type) : Field → Sem (Nat × Nat))).run P w = .ok (l.map fun f => (f.off, f.size)) w
  | [], l, h => by cases h; simp
  | f :: fs, l, h => by
    simp only [fieldsOf, Option.bind_eq_some_iff, Option.map_eq_some_iff] at h
    obtain ⟨x, hx, r, hr, rfl⟩ := h
    simp only [fieldOf, Option.bind_eq_some_iff, Option.map_eq_some_iff] at hx
    obtain ⟨i, hi, d, hd, rfl⟩ := hx
    have ih := run_places (w := w) hr
    simp only [List.mapM_cons, Sem.run_bind, run_sizeOf' hi, Result.andThen_ok, Sem.run_pure, List.map_cons]
    rw [ih]
    simp

theorem vbuild_sound {P : Program} {T : TypeId} {parts : List (Nat × V)} {pv : List (Nat × Value)} {v : V} {E : Env} (hp : RepP E parts pv) (h : vbuild P T parts = some v) :
    ∃ val, (Instr.build T pv.toArray).run P E.w = .ok val E.w ∧ RepV E v val := by
  simp only [vbuild, Option.bind_eq_some_iff] at h
  obtain ⟨t, ht, h⟩ := h
  obtain ⟨_, d, _, hd, hk, _⟩ := tyOf_parts ht
  split at h
  case h_2 => cases h
  rename_i fs b hkd
  split at h
  case isFalse => cases h
  rename_i h0
  obtain ⟨cs, hcs, rfl⟩ := Option.map_eq_some_iff.1 h
  obtain ⟨i, z, hi, hz, hs, hzs, hrep⟩ := zero_rep ht h0
  rw [hkd] at hk
  cases d <;> simp [kdOf] at hk
  rename_i flds _
  obtain ⟨l, hl, ⟨rfl, _⟩⟩ := hk
  have hpl := run_places (P := P) (w := E.w) hl
  obtain ⟨A, hA, hAr⟩ := vfill_sound hp (hrep E) hcs
  have hplace : (fun i => ((l.map fun f => (f.off, f.size)).toArray)[i]?) = placeS l := by
    funext i
    simp [placeS]
  refine ⟨.agg A, ?_, by simpa using RepV.agg hAr⟩
  have hmap : (flds.mapM (fun f => do pure (f.offset, ← sizeOf f.type) : Field → Sem (Nat × Nat))).run P E.w = .ok (l.map fun f => (f.off, f.size)).toArray E.w := by
    rw [← Array.toArray_toList (xs := flds), List.mapM_toArray]
    simp only [Sem.run_map, hpl, Result.andThen_ok]
  simp only [Instr.build, Sem.run_bind, zeroValue, run_typeInfo' hi, Result.andThen_ok, hz, Sem.run_pure, run_underlying hd, hmap, hplace]
  rw [Array.toArray_toList] at hA
  simp only [hA, Sem.run_pure]

/-! ### slices built and made -/
def chunkV (sz : Nat) (agg : Bool) : Nat → List V → List V
  | 0, _ => []
  | n + 1, cs => (if agg then .agg (cs.take sz) else cs.headD .und) :: chunkV sz agg n (cs.drop sz)

/-- The cells of an element are cells. -/
def chunkOk (sz : Nat) (agg : Bool) (cs : List V) : Bool := agg || (sz == 1 && cs.all V.one)

theorem one_cells {v : V} (h : v.one = true) : v.cells = [v] := by
  cases v <;> simp_all [V.one, V.cells]

theorem chunkV_spec {sz : Nat} {agg : Bool} : ∀ {n : Nat} {cs : List V}, cs.length = n * sz → chunkOk sz agg cs = true → 0 < sz →
    (chunkV sz agg n cs).length = n ∧ V.flat (chunkV sz agg n cs) = cs ∧ ∀ x ∈ chunkV sz agg n cs, x.cells.length = sz
  | 0, cs, hl, _, _ => by
    have : cs = [] := List.eq_nil_of_length_eq_zero (by omega)
    subst this
    simp [chunkV, V.flat]
  | n + 1, cs, hl, hok, h0 => by
    rw [Nat.add_mul, Nat.one_mul] at hl
    have hok' : chunkOk sz agg (cs.drop sz) = true := by
      simp only [chunkOk, Bool.or_eq_true, Bool.and_eq_true, List.all_eq_true] at *
      rcases hok with h | ⟨h1, h2⟩
      · exact .inl h
      · exact .inr ⟨h1, fun x hx => h2 x (List.mem_of_mem_drop hx)⟩
    obtain ⟨i1, i2, i3⟩ := chunkV_spec (n := n) (cs := cs.drop sz) (by simp; omega) hok' h0
    have hhead : (if agg then V.agg (cs.take sz) else cs.headD .und).cells = cs.take sz := by
      cases agg with
      | true => rfl
      | false =>
        simp only [chunkOk, Bool.false_or, Bool.and_eq_true, beq_iff_eq, List.all_eq_true] at hok
        obtain ⟨rfl, h2⟩ := hok
        cases cs with
        | nil => simp at hl
        | cons c cs => simpa using one_cells (h2 c (by simp))
    refine ⟨by simp [chunkV, i1], ?_, ?_⟩
    · show ((if agg then V.agg (cs.take sz) else cs.headD .und) :: chunkV sz agg n (cs.drop sz)).flatMap V.cells = cs
      rw [List.flatMap_cons, hhead]
      have : (chunkV sz agg n (cs.drop sz)).flatMap V.cells = cs.drop sz := i2
      rw [this, List.take_append_drop]
    · intro x hx
      simp only [chunkV, List.mem_cons] at hx
      rcases hx with rfl | hx
      · rw [hhead, List.length_take]
        omega
      · exact i3 x hx

theorem range_mod (z : Array Value) (hz : 0 < z.size) : ∀ n, ((Array.range (n * z.size)).map (z[· % z.size]!)).toList = (List.replicate n z.toList).flatten
  | 0 => by simp
  | n + 1 => by
    have ih := range_mod z hz n
    simp only [Array.toList_map, Array.toList_range] at *
    rw [Nat.add_mul, Nat.one_mul, List.range_add, List.map_append, ih, List.replicate_succ', List.flatten_append]
    congr 1
    simp only [List.map_map, List.flatten_cons, List.flatten_nil, List.append_nil]
    apply List.ext_getElem?
    intro i
    by_cases hi : i < z.size
    · have e1 : (n * z.size + i) % z.size = i := by
        rw [Nat.mul_comm, Nat.mul_add_mod, Nat.mod_eq_of_lt hi]
      simp [hi, e1]
    · simp [hi]

theorem RepL.replicate {E : Env} {z : List V} {zv : List Value} (h : RepL E z zv) : ∀ n, RepL E (List.replicate n z).flatten (List.replicate n zv).flatten
  | 0 => by simpa using RepL.nil
  | n + 1 => by simpa [List.replicate_succ] using h.append (RepL.replicate h n)

theorem length_replicate_flatten {α : Type} (z : List α) (n : Nat) : (List.replicate n z).flatten.length = n * z.length := by
  simp

def vbuildSlice (P : Program) (T : TypeId) (len : Nat) (parts : List (Nat × V)) (s : S) : Option (V × S) :=
  (tyOf P T).bind fun t => match t.kd with
    | .slice e => (tyOf P e).bind fun te => if te.zero.length = te.size ∧ 0 < te.size ∧ len * te.size ≤ 16777216 then
        (vfill (fun i => some (i * te.size, te.size)) (List.replicate len te.zero).flatten parts).bind fun cs =>
          if len = 0 then some (.zsl, s) else if chunkOk te.size te.agg cs = true then some (.sl s.next (chunkV te.size te.agg len cs), s.newFam len te.size) else none
      else none
    | _ => none

theorem vfill_length {place : Nat → Option (Nat × Nat)} : ∀ {parts : List (Nat × V)} {cells cs : List V}, vfill place cells parts = some cs → cs.length = cells.length
  | [], cells, cs, h => by cases h; rfl
  | (i, v) :: rest, cells, cs, h => by
    simp only [vfill, Option.bind_eq_some_iff] at h
    obtain ⟨⟨off, size⟩, _, h⟩ := h
    split at h
    case isFalse => cases h
    rename_i hc
    rw [vfill_length h]
    unfold splice
    simp only [List.length_append, List.length_take, List.length_drop] at *
    omega

/-- A new block of cells that are held for good. -/
theorem step_newFam {E : Env} {s : S} (hr : RelS E s) {n sz cap : Nat} {arr : Array Value} {e : TypeId} (hc : n ≤ cap) (hm : cap ≤ maxLen) (ha : cap * sz ≤ arr.size) :
    Step E s (E.grow (E.w.alloc (.cells arr e)) s.next E.w.heap.size (n * sz) ⟨n, some E.w.heap.size, cap, sz⟩) (s.newFam n sz) ∧
    RelS (E.grow (E.w.alloc (.cells arr e)) s.next E.w.heap.size (n * sz) ⟨n, some E.w.heap.size, cap, sz⟩) (s.newFam n sz) := by
  refine step_grow hr (.inr ⟨rfl, rfl⟩) rfl rfl rfl (by simp) rfl rfl rfl hc hm (heap_alloc_new _ _) ha (fun o _ h => by omega) (fun k hk _ => ?_) (.inl (Nat.le_refl _)) (fun F0 h0 => ?_)
  · show (E.w.heap.push _)[k]? = _
    rw [Array.getElem?_push, if_neg (by omega)]
  · rw [(hr.fresh s.next (Nat.le_refl _)).2] at h0
    cases h0

theorem vbuildSlice_sound {P : Program} {T : TypeId} {len : Nat} {parts : List (Nat × V)} {pv : List (Nat × Value)} {v : V} {s s' : S} {E : Env} (hr : RelS E s) (hp : RepP E parts pv) (h : vbuildSlice P T len parts s = some (v, s')) :
    Does P (Instr.buildSlice T len pv.toArray) E s v s' := by
  simp only [vbuildSlice, Option.bind_eq_some_iff] at h
  obtain ⟨t, ht, h⟩ := h
  obtain ⟨_, d, _, hd, hk, _⟩ := tyOf_parts ht
  split at h
  case h_2 => cases h
  rename_i e hkd
  rw [hkd] at hk
  have : d = .slice e := by cases d <;> simp [kdOf] at hk; rw [hk]
  subst this
  simp only [Option.bind_eq_some_iff] at h
  obtain ⟨te, hte, h⟩ := h
  split at h
  case isFalse => cases h
  rename_i h0
  obtain ⟨h01, h02, h03⟩ := h0
  obtain ⟨cs, hcs, h4⟩ := Option.bind_eq_some_iff.1 h
  clear h
  obtain ⟨i, z, hi, hz, hs, hzs, hrep⟩ := zero_rep hte ⟨h01, h02⟩
  have hzr := (hrep E).replicate len
  obtain ⟨A, hA, hAr⟩ := vfill_sound hp hzr hcs
  have hlcs := vfill_length hcs
  rw [length_replicate_flatten, h01] at hlcs
  have hAl := hAr.length
  have hnot : ¬ (len * i.size > 2 ^ 24) := by rw [← hs]; omega
  have hmod := range_mod z.cells (by omega) len
  rw [hzs] at hmod
  have hplace : (fun j => some (j * i.size, i.size)) = (fun j => some (j * te.size, te.size)) := by rw [hs]
  have hrun : (Instr.buildSlice T len pv.toArray).run P E.w = .ok (.slice (some ⟨E.w.heap.size, 0, none⟩) len len) (E.w.alloc (.cells A e)) := by
    simp only [Instr.buildSlice, Sem.run_bind, run_underlying hd, Result.andThen_ok, run_sizeOf' hi, hnot, if_false, hplace]
    by_cases hl0 : len * i.size = 0
    · have : len = 0 := by
        rcases Nat.mul_eq_zero.1 hl0 with h | h
        · exact h
        · omega
      subst this
      have hA' : Instr.fill (fun i => some (i * te.size, te.size)) #[] pv = some A := by simpa using hA
      have hm0 : ∀ f : Nat → Value, (Array.range 0).map f = #[] := fun f => by simp
      simp only [Nat.zero_mul, if_true, Sem.run_bind, Sem.run_pure, Result.andThen_ok, hm0, hA', newRow, run_newObj_alloc]
    · have hm2 : (Array.range (len * i.size)).map (z.cells[· % z.cells.size]!) = (List.replicate len z.cells.toList).flatten.toArray := by
        apply Array.ext'
        rw [hzs, hmod]
      simp only [hl0, if_false, Sem.run_bind, zeroValue, run_typeInfo' hi, Result.andThen_ok, hz, Sem.run_pure, hm2, hA, newRow, run_newObj_alloc]
  split at h4
  · rename_i hl0
    subst hl0
    cases h4
    obtain ⟨k1, k2⟩ := step_raw hr (.cells A e)
    exact ⟨_, _, hrun, k1, k2, .zsl⟩
  · split at h4
    case isFalse => cases h4
    rename_i hok
    cases h4
    have hAs : A.size = len * te.size := by simp only [Array.length_toList] at hAl; omega
    have hmx : len ≤ maxLen := by
      have : len ≤ len * te.size := Nat.le_mul_of_pos_right _ h02
      unfold maxLen
      omega
    obtain ⟨k1, k2⟩ := step_newFam (e := e) hr (Nat.le_refl len) hmx (Nat.le_of_eq hAs.symm)
    obtain ⟨c1, c2, c3⟩ := chunkV_spec hlcs hok h02
    refine ⟨_, _, hrun, k1, k2, ?_⟩
    have := RepV.sl (E := E.grow (E.w.alloc (.cells A e)) s.next E.w.heap.size (len * te.size) ⟨len, some E.w.heap.size, len, te.size⟩) (id := s.next) (xs := chunkV te.size te.agg len cs) (vals := A.toList) (g := E.w.heap.size) (off := 0) (cap := len) c3
      (by rw [c1]; exact Nat.le_refl _) hmx (by rw [c2]; exact hAr.evolve k1.ev) (fun j x hj => ⟨.inr ⟨rfl, ?_⟩, ?_⟩) (.inr ⟨⟨len, some E.w.heap.size, len, te.size⟩, by simp [Env.grow], by rw [c1]; exact Nat.le_refl _, fun _ => ⟨rfl, rfl, rfl, rfl⟩⟩)
    · rwa [c1] at this
    · have := (List.getElem?_eq_some_iff.1 hj).1
      simp only [Array.length_toList] at this
      omega
    · show (E.w.alloc (.cells A e)).cell? _ = _
      rw [World.cell?_alloc_new, Nat.zero_add]
      simpa using hj

/-- A new block whose first cells nobody writes: the state stays. -/
theorem step_lit {E : Env} {s : S} (hr : RelS E s) (A : Array Value) (e : TypeId) (n : Nat) (hn : n ≤ A.size) :
    Step E s { E with w := E.w.alloc (.cells A e), imm := fun g o => E.imm g o ∨ (g = E.w.heap.size ∧ o < n) } s ∧
    RelS { E with w := E.w.alloc (.cells A e), imm := fun g o => E.imm g o ∨ (g = E.w.heap.size ∧ o < n) } s := by
  obtain ⟨k1, k2⟩ := step_raw hr (.cells A e)
  have ev : Evolve { E with w := E.w.alloc (.cells A e) } { E with w := E.w.alloc (.cells A e), imm := fun g o => E.imm g o ∨ (g = E.w.heap.size ∧ o < n) } := ⟨fun _ _ i => .inl i, fun _ _ _ => rfl, fun _ _ h => h, fun id F hF => ⟨F, hF, Nat.le_refl _, fun _ => rfl⟩⟩
  refine hr.fin ⟨k1.ev.trans ev, k1.os, k1.tape, k1.output, k1.size, k1.block, k1.track, k1.next⟩ ⟨fun l cs hl => ?_, k2.varinj, fun id m sz hid => ?_, k2.faminj, k2.famvar, k2.fresh, k2.pos, fun g o i => ?_⟩
  · obtain ⟨g, arr, e', fr, h1, h2⟩ := k2.var l cs hl
    have hlt : g < E.w.heap.size := hr.loc_lt (by rw [hl]; rfl) h1
    exact ⟨g, arr, e', fr, h1, h2.evolve ev rfl fun o i => by
      rcases i with i | ⟨i, _⟩
      · exact h2.imm o i
      · omega⟩
  · obtain ⟨h0, F, h1, h2, h3, h4, h5, h6⟩ := k2.fam id m sz hid
    refine ⟨h0, F, h1, h2, h3, h4, h5, fun g hg => ?_⟩
    obtain ⟨arr, e', fr, h7, h8, h9, h10⟩ := h6 g hg
    have hlt : g < E.w.heap.size := hr.fam_lt (id := id) (by rw [hid]; rfl) h1 hg
    exact ⟨arr, e', fr, h7, h8, h9, fun o ho i => by
      rcases i with i | ⟨i, _⟩
      · exact h10 o ho i
      · omega⟩
  · rcases i with i | ⟨rfl, i⟩
    · exact k2.imm g o i
    · refine ⟨A[o]'(by omega), ?_⟩
      show (E.w.alloc (.cells A e)).cell? _ = _
      rw [World.cell?_alloc_new]
      simp
/-- A slice literal that nobody appends to. -/
def vbsF (P : Program) (T : TypeId) (len : Nat) (ps : List (Nat × V)) (s : S) : Option V :=
  match vbuildSlice P T len ps s with
  | some (.sl _ us, _) => some (.sl 0 us)
  | _ => none
theorem vbsF_sound {P : Program} {T : TypeId} {len : Nat} {parts : List (Nat × V)} {pv : List (Nat × Value)} {v : V} {s : S} {E : Env} (hr : RelS E s) (hp : RepP E parts pv) (hF : vbsF P T len parts s = some v) :
    Does P (Instr.buildSlice T len pv.toArray) E s v s := by
  unfold vbsF at hF
  split at hF
  case h_2 => cases hF
  rename_i id us s' h
  cases hF
  simp only [vbuildSlice, Option.bind_eq_some_iff] at h
  obtain ⟨t, ht, h⟩ := h
  obtain ⟨_, d, _, hd, hk, _⟩ := tyOf_parts ht
  split at h
  case h_2 => cases h
  rename_i e hkd
  rw [hkd] at hk
  have : d = .slice e := by cases d <;> simp [kdOf] at hk; rw [hk]
  subst this
  simp only [Option.bind_eq_some_iff] at h
  obtain ⟨te, hte, h⟩ := h
  split at h
  case isFalse => cases h
  rename_i h0
  obtain ⟨h01, h02, h03⟩ := h0
  obtain ⟨cs, hcs, h4⟩ := Option.bind_eq_some_iff.1 h
  clear h
  obtain ⟨i, z, hi, hz, hs, hzs, hrep⟩ := zero_rep hte ⟨h01, h02⟩
  have hzr := (hrep E).replicate len
  obtain ⟨A, hA, hAr⟩ := vfill_sound hp hzr hcs
  have hlcs := vfill_length hcs
  rw [length_replicate_flatten, h01] at hlcs
  have hAl := hAr.length
  have hnot : ¬ (len * i.size > 2 ^ 24) := by rw [← hs]; omega
  have hmod := range_mod z.cells (by omega) len
  rw [hzs] at hmod
  have hplace : (fun j => some (j * i.size, i.size)) = (fun j => some (j * te.size, te.size)) := by rw [hs]
  have hrun : (Instr.buildSlice T len pv.toArray).run P E.w = .ok (.slice (some ⟨E.w.heap.size, 0, none⟩) len len) (E.w.alloc (.cells A e)) := by
    simp only [Instr.buildSlice, Sem.run_bind, run_underlying hd, Result.andThen_ok, run_sizeOf' hi, hnot, if_false, hplace]
    by_cases hl0 : len * i.size = 0
    · have : len = 0 := by
        rcases Nat.mul_eq_zero.1 hl0 with h | h
        · exact h
        · omega
      subst this
      have hA' : Instr.fill (fun i => some (i * te.size, te.size)) #[] pv = some A := by simpa using hA
      have hm0 : ∀ f : Nat → Value, (Array.range 0).map f = #[] := fun f => by simp
      simp only [Nat.zero_mul, if_true, Sem.run_bind, Sem.run_pure, Result.andThen_ok, hm0, hA', newRow, run_newObj_alloc]
    · have hm2 : (Array.range (len * i.size)).map (z.cells[· % z.cells.size]!) = (List.replicate len z.cells.toList).flatten.toArray := by
        apply Array.ext'
        rw [hzs, hmod]
      simp only [hl0, if_false, Sem.run_bind, zeroValue, run_typeInfo' hi, Result.andThen_ok, hz, Sem.run_pure, hm2, hA, newRow, run_newObj_alloc]
  split at h4
  · cases h4
  · split at h4
    case isFalse => cases h4
    rename_i hok
    cases h4
    have hAs : A.size = len * te.size := by simp only [Array.length_toList] at hAl; omega
    have hmx : len ≤ maxLen := by
      have : len ≤ len * te.size := Nat.le_mul_of_pos_right _ h02
      unfold maxLen
      omega
    obtain ⟨k1, k2⟩ := step_lit hr A e (len * te.size) (Nat.le_of_eq hAs.symm)
    obtain ⟨c1, c2, c3⟩ := chunkV_spec hlcs hok h02
    refine ⟨_, _, hrun, k1, k2, ?_⟩
    have := RepV.sl (E := { E with w := E.w.alloc (.cells A e), imm := fun g o => E.imm g o ∨ (g = E.w.heap.size ∧ o < len * te.size) }) (id := 0) (xs := chunkV te.size te.agg len cs) (vals := A.toList) (g := E.w.heap.size) (off := 0) (cap := len) c3
      (by rw [c1]; exact Nat.le_refl _) hmx (by rw [c2]; exact hAr.evolve k1.ev) (fun j x hj => ⟨.inr ⟨rfl, ?_⟩, ?_⟩) (.inl rfl)
    · rwa [c1] at this
    · have := (List.getElem?_eq_some_iff.1 hj).1
      simp only [Array.length_toList] at this
      omega
    · show (E.w.alloc (.cells A e)).cell? _ = _
      rw [World.cell?_alloc_new, Nat.zero_add]
      simpa using hj

end Go.Proofs.YtbnbmcplmipgdaaGreatDoor

namespace Go.Proofs.YtbnbmcplmipgdaaGreatDoor
open Go

/-! ### make -/
def vmake (P : Program) (T : TypeId) (x y : V) (s : S) : Option (V × S) :=
  (tyOf P T).bind fun t => match t.kd, x, y with
    | .slice e, .int _ n, .int _ m => (tyOf P e).bind fun te =>
      if te.zero.length = te.size ∧ 0 < te.size ∧ 0 ≤ n ∧ n ≤ m ∧ m ≤ 140737488355328 ∧ te.bytes * m ≤ 140737488355328 then
        if n = m then some (.slm .eq s.next 0 n.toNat, s.newVar (List.replicate n.toNat te.zero).flatten)
        else if n = 0 then some (.sl s.next [], s.newFam 0 te.size) else none
      else none
    | _, _, _ => none

theorem run_makeSlice' {P : Program} {T e : TypeId} {i : TypeInfo} {z : Value} {w : World} {n m : Int} (hd : P.underlying T = some (.slice e)) (hi : P.info? e = some i) (hz : i.zero = some z) (hzs : z.cells.size = i.size)
    (h0 : 0 < i.size) (h1 : 0 ≤ n) (h2 : n ≤ m) (h3 : m ≤ 140737488355328) (h4 : i.bytes * m ≤ 140737488355328) (k k' : IntKind) :
    (Instr.makeSlice T (.int k n) (.int k' m)).run P w = .ok (.slice (some ⟨w.heap.size, 0, none⟩) n.toNat m.toNat) (w.alloc (.cells (List.replicate m.toNat z.cells.toList).flatten.toArray e)) := by
  have wn : IntKind.i64.wrap n = n := by rw [IntKind.wrap_i64]; omega
  have wm : IntKind.i64.wrap m = m := by rw [IntKind.wrap_i64]; omega
  have hmod := range_mod z.cells (by omega) m.toNat
  rw [hzs] at hmod
  have c1 : ¬ m < 0 := by omega
  have c2 : ¬ ((i.bytes : Int) * m > 2 ^ 48) := by omega
  have c3 : ¬ n < 0 := by omega
  have c4 : ¬ n > m := by omega
  have c5 : (decide (m < 0) || decide ((i.bytes : Int) * m > 2 ^ 48) || decide (n < 0) || decide (n > m)) = false := by
    simp only [decide_eq_false c1, decide_eq_false c2, decide_eq_false c3, decide_eq_false c4, Bool.or_false]
  simp only [Instr.makeSlice, Sem.run_bind, run_underlying hd, Result.andThen_ok, asInt, asIntOf, Sem.run_pure, run_typeInfo' hi, wn, wm, c5, Bool.false_eq_true, if_false, run_askRoom, run_sizeOf' hi]
  by_cases hl0 : m.toNat * i.size = 0
  · have : m.toNat = 0 := by
      rcases Nat.mul_eq_zero.1 hl0 with h | h
      · exact h
      · omega
    have hm0 : ∀ f : Nat → Value, (Array.range 0).map f = #[] := fun f => by simp
    simp only [this, Nat.zero_mul, if_true, Sem.run_bind, Sem.run_pure, Result.andThen_ok, hm0, newRow, run_newObj_alloc, List.replicate_zero, List.flatten_nil]
  · have hm2 : (Array.range (m.toNat * i.size)).map (z.cells[· % z.cells.size]!) = (List.replicate m.toNat z.cells.toList).flatten.toArray := by
      apply Array.ext'
      rw [hzs, hmod]
    simp only [hl0, if_false, Sem.run_bind, zeroValue, run_typeInfo' hi, Result.andThen_ok, hz, Sem.run_pure, hm2, newRow, run_newObj_alloc]

theorem vmake_sound {P : Program} {T : TypeId} {x y v : V} {s s' : S} {E : Env} {xv yv : Value} (hr : RelS E s) (hx : RepV E x xv) (hy : RepV E y yv) (h : vmake P T x y s = some (v, s')) : Does P (Instr.makeSlice T xv yv) E s v s' := by
  simp only [vmake, Option.bind_eq_some_iff] at h
  obtain ⟨t, ht, h⟩ := h
  obtain ⟨_, d, _, hd, hk, _⟩ := tyOf_parts ht
  split at h
  case h_2 => cases h
  rename_i e k n k' m hkd
  rw [hkd] at hk
  have : d = .slice e := by cases d <;> simp [kdOf] at hk; rw [hk]
  subst this
  simp only [Option.bind_eq_some_iff] at h
  obtain ⟨te, hte, h⟩ := h
  split at h
  case isFalse => cases h
  rename_i h0
  obtain ⟨h01, h02, h03, h04, h05, h06⟩ := h0
  obtain ⟨i, z, hi, hz, hs, hzs, hrep⟩ := zero_rep hte ⟨h01, h02⟩
  obtain ⟨i', _, hi', _, _, _, hb, _⟩ := tyOf_parts hte
  rw [hi] at hi'
  cases hi'
  cases hx
  cases hy
  have hrun := run_makeSlice' (w := E.w) hd hi hz hzs (by omega) h03 h04 h05 (by rw [← hb]; exact h06) k k'
  have hzl := (hrep E).length
  split at h
  · rename_i hnm
    subst hnm
    cases h
    have hrepl := (hrep E).replicate n.toNat
    have hll := hrepl.length
    obtain ⟨k1, k2⟩ := step_newVar hr (arr := (List.replicate n.toNat z.cells.toList).flatten.toArray) (cs := (List.replicate n.toNat te.zero).flatten) (by rw [← hll]; show RepL E _ (List.take _ (List.replicate n.toNat z.cells.toList).flatten); rw [List.take_length]; exact hrepl) (by rw [← hll]; simp) e (0, 0) (fun o _ h => by omega)
    refine ⟨_, _, hrun, k1, k2, .slm (by simp [Env.newVar]) (Nat.le_refl _) (by unfold maxLen; omega) rfl⟩
  · split at h
    case isFalse => cases h
    rename_i hn0
    subst hn0
    cases h
    obtain ⟨k1, k2⟩ := step_newFam (n := 0) (sz := te.size) (cap := m.toNat) (arr := (List.replicate m.toNat z.cells.toList).flatten.toArray) (e := e) hr (Nat.zero_le _) (by unfold maxLen; omega) (by
      rw [List.size_toArray, length_replicate_flatten, hzl, h01]
      exact Nat.le_refl _)
    refine ⟨_, _, hrun, k1, k2, ?_⟩
    exact RepV.sl (id := s.next) (xs := []) (vals := []) (sz := te.size) (by simp) (Nat.zero_le _) (by unfold maxLen; omega) .nil (fun j x hj => by simp at hj)
      (.inr ⟨⟨0, some E.w.heap.size, m.toNat, te.size⟩, by simp [Env.grow], Nat.le_refl _, fun _ => ⟨rfl, rfl, rfl, rfl⟩⟩)

/-! ### append -/
/-- What is appended: elements. -/
def elemsOf (te : Ty) (y : V) (s : S) : Option (List V) :=
  match y with
  | .sl _ ys => some ys
  | .zsl => some []
  | .nilsl => some []
  | .slm _ l off len => (s.vars l).bind fun cs => if off + len * te.size ≤ cs.length then
      if chunkOk te.size te.agg ((cs.drop off).take (len * te.size)) = true then some (chunkV te.size te.agg len ((cs.drop off).take (len * te.size))) else none else none
  | _ => none

def vappend (P : Program) (T : TypeId) (x y : V) (s : S) : Option (V × S) :=
  (tyOf P T).bind fun t => match t.kd with
    | .slice e => (tyOf P e).bind fun te => (elemsOf te y s).bind fun ys =>
      if te.zero.length = te.size ∧ 0 < te.size ∧ (ys.all fun y => decide (y.cells.length = te.size) && y.cells.all V.one) = true then
        match x with
        | .sl id xs => (s.fams id).bind fun f => if f.1 = xs.length ∧ f.2 = te.size ∧ (xs.length + ys.length) * te.bytes ≤ 140737488355328 ∧ xs.length + ys.length ≤ 140737488355328 then
            some (.sl id (xs ++ ys), s.setFam id (xs.length + ys.length) te.size) else none
        | .nilsl => if ys.length * te.bytes ≤ 140737488355328 ∧ ys.length ≤ 140737488355328 then some (.sl s.next ys, s.newFam ys.length te.size) else none
        | .zsl => if ys.length * te.bytes ≤ 140737488355328 ∧ ys.length ≤ 140737488355328 then some (.sl s.next ys, s.newFam ys.length te.size) else none
        | _ => none
      else none
    | _ => none

/-- The cells that are appended, where they lie. -/
theorem elems_sound {P : Program} {e : TypeId} {te : Ty} (_ : tyOf P e = some te) {y : V} {ys : List V} {s : S} {E : Env} {yv : Value} (h0 : 0 < te.size) (hr : RelS E s) (hy : RepV E y yv) (h : elemsOf te y s = some ys)
    (hsz : ∀ y ∈ ys, y.cells.length = te.size) :
    ∃ (a : Option Addr) (m c : Nat) (news : List Value), yv = .slice a m c ∧ ys.length = m ∧ m ≤ c ∧ news.length = m * te.size ∧ RepL E (V.flat ys) news ∧ (∀ b, a = some b → ∀ j u, news[j]? = some u → E.w.cell? (b.add j) = some u) ∧
      (a = none → m = 0) := by
  unfold elemsOf at h
  split at h
  · rename_i id xs
    cases h
    cases hy with
    | @sl id' xs' vals g off cap sz a b c r sg f =>
      refine ⟨_, _, _, vals, rfl, rfl, b, ?_, r, fun b' hb j u hj => ?_, fun e => by cases e⟩
      · rw [r.length, flat_uniform hsz]
      · cases hb
        rw [add_eq]
        exact (sg j u hj).2
    | slz f => exact ⟨_, _, _, [], rfl, rfl, Nat.le_refl _, by simp, by simpa [V.flat] using RepL.nil, fun _ _ j u hj => by simp at hj, fun _ => rfl⟩
  · cases h
    cases hy
    exact ⟨_, _, _, [], rfl, rfl, Nat.le_refl _, by simp, by simpa [V.flat] using RepL.nil, fun _ _ j u hj => by simp at hj, fun _ => rfl⟩
  · cases h
    cases hy
    exact ⟨_, _, _, [], rfl, rfl, Nat.le_refl _, by simp, by simpa [V.flat] using RepL.nil, fun _ _ j u hj => by simp at hj, fun _ => rfl⟩
  · rename_i x l off len
    obtain ⟨cs, hcs, h⟩ := Option.bind_eq_some_iff.1 h
    split at h
    case isFalse => cases h
    rename_i hle
    split at h
    case isFalse => cases h
    rename_i hok
    cases h
    cases hy with
    | @slm _ _ _ _ cap g hg hl1 hl2 _ =>
      obtain ⟨g', arr, et, fr, h1, h2⟩ := hr.var _ _ hcs
      rw [hg] at h1
      cases h1
      have hl : ((cs.drop off).take (len * te.size)).length = len * te.size := by rw [List.length_take, List.length_drop]; omega
      obtain ⟨c1, c2, c3⟩ := chunkV_spec hl hok h0
      have hrep := (h2.rep.drop off).take (len * te.size)
      refine ⟨_, _, _, ((arr.toList.take cs.length).drop off).take (len * te.size), rfl, c1, hl1, ?_, by rw [c2]; exact hrep, fun b hb j u hj => ?_, fun e => by cases e⟩
      · rw [hrep.length, hl]
      · cases hb
        rw [add_eq, cell_of_row E.w _ _ arr et fr h2.heap]
        rw [List.getElem?_take] at hj
        split at hj
        · rw [List.getElem?_drop, List.getElem?_take] at hj
          split at hj
          · simpa using hj
          · cases hj
        · cases hj
    | slm0 =>
      refine ⟨_, _, _, [], rfl, ?_, Nat.le_refl _, by simp, ?_, fun _ _ j u hj => by simp at hj, fun _ => rfl⟩
      · simp [chunkV]
      · simpa [chunkV, V.flat] using RepL.nil
  · cases h

theorem run_append_none {P : Program} {t ty e : TypeId} {i : TypeInfo} {w : World} (ht : P.underlying t = some (.slice e)) (hi : P.info? e = some i) (base a : Option Addr) (n cap c : Nat) (hn : n ≤ cap) :
    (Builtin.append_ #[t, t] ty #[.slice base n cap, .slice a 0 c]).run P w = .ok (.slice base n cap) w := by
  have hf : (Builtin.firstCells i.size 0 (.slice a 0 c)).run P w = .ok #[] w := by
    cases a <;> simp [Builtin.firstCells, loadCells, loadCellsFrom]
  cases base with
  | none => simp [Builtin.append_, run_underlying ht, run_sizeOf' hi, Builtin.lenOf, hn, hf]
  | some b => simp [Builtin.append_, run_underlying ht, run_sizeOf' hi, Builtin.lenOf, hn, hf, storeCells]

theorem run_append_room' {P : Program} {t ty e : TypeId} {i : TypeInfo} {w : World} (ht : P.underlying t = some (.slice e)) (hi : P.info? e = some i)
    {g sLen sCap : Nat} {cur : Array Value} {et : TypeId} {fr : Nat × Nat} {m : Nat} (hg : w.heap[g]? = some (.cells cur et fr)) (hfr : ∀ x, sLen * i.size ≤ x → x < sLen * i.size + m * i.size → ¬ (fr.1 ≤ x ∧ x < fr.2))
    {a : Addr} {c : Nat} {news : List Value} (hl : news.length = m * i.size) (hnews : ∀ j u, news[j]? = some u → w.cell? (a.add j) = some u) (h1 : ∀ u ∈ news, u.oneCell' = true)
    (hroom : sLen + m ≤ sCap) (hfit : sLen * i.size + news.length ≤ cur.size) :
    (Builtin.append_ #[t, t] ty #[.slice (some ⟨g, 0, none⟩) sLen sCap, .slice (some a) m c]).run P w =
      .ok (.slice (some ⟨g, 0, none⟩) (sLen + m) sCap) (w.setRow g (cur.toList.take (sLen * i.size) ++ news ++ cur.toList.drop (sLen * i.size + news.length)).toArray) := by
  have hf := run_firstCells_some (P := P) w i.size m a m c news hl hnews
  have hst := run_storeCells_fr P g (sLen * i.size) et fr news 0 cur w hg (by simpa using hfit) (fun x a b => hfr x (by omega) (by omega)) h1
  simp only [Nat.add_zero] at hst
  simp [Builtin.append_, run_underlying ht, run_sizeOf' hi, Builtin.lenOf, hroom, hf, add_eq, hst]

theorem repl_zero {t : S} {id n sz : Nat} (h : t.fams id = some (n, sz)) : ∀ l cs, (t.setFam id n sz).fams l = some cs → t.fams l = some cs := by
  intro l cs hl
  by_cases e : l = id
  · subst e
    simp only [S.setFam, if_true] at hl
    rw [h]
    exact hl
  · simpa [S.setFam, e] using hl

/-- The append at family id: what lies there, or nothing yet. -/
theorem append_core {P : Program} {T ty e : TypeId} {i : TypeInfo} {z : Value} {te : Ty} (hd : P.underlying T = some (.slice e)) (hi : P.info? e = some i) (hz : i.zero = some z) (hzs : z.cells.size = i.size) (hs : te.size = i.size)
    (hby : te.bytes = i.bytes) {E : Env} {s s' : S} (hr : RelS E s) {id : Nat} {xs ys : List V} {base : Option Addr} {cap : Nat} {F : Fam}
    (hs' : ((s.fams id).isSome = true ∧ s' = s.setFam id (xs.length + ys.length) te.size) ∨ (id = s.next ∧ s' = s.newFam (xs.length + ys.length) te.size))
    (hF : (s.fams id = some (xs.length, te.size) ∧ E.fam id = some F) ∨ (id = s.next ∧ xs = [] ∧ cap = 0))
    (hbase : (xs = [] ∧ cap = 0 ∧ (s.fams id = some (xs.length, te.size) → F.blk = none)) ∨
      ∃ g xv, base = some ⟨g, 0, none⟩ ∧ F.blk = some g ∧ cap = F.cap ∧ s.fams id = some (xs.length, te.size) ∧ RepL E (V.flat xs) xv ∧ Seg E g 0 xv ∧ (∀ x ∈ xs, x.cells.length = te.size))
    {a : Addr} {c : Nat} {news : List Value} (hpos : 0 < ys.length) (hnl : news.length = ys.length * te.size) (hnr : RepL E (V.flat ys) news) (hnews : ∀ j u, news[j]? = some u → E.w.cell? (a.add j) = some u)
    (hysz : ∀ y ∈ ys, y.cells.length = te.size) (hone : ∀ u ∈ news, u.oneCell' = true) (hb1 : (xs.length + ys.length) * te.bytes ≤ 140737488355328) (hb2 : xs.length + ys.length ≤ 140737488355328) :
    Does P (Builtin.append_ #[T, T] ty #[.slice base xs.length cap, .slice (some a) ys.length c]) E s (.sl id (xs ++ ys)) s' := by
  have hmx : xs.length + ys.length ≤ maxLen := by unfold maxLen; omega
  have hmono : ∀ F0, E.fam id = some F0 → F0.len ≤ xs.length := by
    intro F0 h1
    rcases hF with ⟨h2, h3⟩ | ⟨rfl, _, _⟩
    · obtain ⟨_, F1, k1, ⟨k2, _⟩, _⟩ := hr.fam _ _ _ h2
      rw [h1] at k1
      cases k1
      omega
    · rw [(hr.fresh s.next (Nat.le_refl _)).2] at h1
      cases h1
  -- what the append makes anew
  have grown : ∀ (olds : List Value) (old : Nat), olds.length = xs.length * te.size → RepL E (V.flat xs) olds → (∀ x ∈ xs, x.cells.length = te.size) → old < xs.length + ys.length →
      (Builtin.append_ #[T, T] ty #[.slice base xs.length cap, .slice (some a) ys.length c]).run P E.w =
        .ok (.slice (some ⟨E.w.heap.size, 0, none⟩) (xs.length + ys.length) (grownCap E.w (xs.length + ys.length) old e))
          (E.w.drew.alloc (.cells (olds.toArray ++ news.toArray ++ Builtin.zeroCells z.cells (grownCap E.w (xs.length + ys.length) old e - (xs.length + ys.length))) e)) →
      Does P (Builtin.append_ #[T, T] ty #[.slice base xs.length cap, .slice (some a) ys.length c]) E s (.sl id (xs ++ ys)) s' := by
    intro olds old hol hor hxsz hold hrun
    have hge := grownCap_ge E.w (xs.length + ys.length) old e
    have hcm : grownCap E.w (xs.length + ys.length) old e ≤ maxLen := grownCap_le_maxLen E.w _ old e hmx
    have hsize : (olds.toArray ++ news.toArray ++ Builtin.zeroCells z.cells (grownCap E.w (xs.length + ys.length) old e - (xs.length + ys.length))).size = grownCap E.w (xs.length + ys.length) old e * te.size := by
      simp only [Array.size_append, List.size_toArray, size_zeroCells, hzs, hol, hnl, ← hs, ← Nat.add_mul]
      congr 1
      omega
    obtain ⟨k1, k2⟩ := step_grow (w := E.w.drew.alloc (.cells (olds.toArray ++ news.toArray ++ Builtin.zeroCells z.cells (grownCap E.w (xs.length + ys.length) old e - (xs.length + ys.length))) e)) (g := E.w.heap.size)
      (F := ⟨xs.length + ys.length, some E.w.heap.size, grownCap E.w (xs.length + ys.length) old e, te.size⟩) hr hs' rfl rfl rfl (by simp) rfl rfl rfl hge hcm (heap_alloc_new E.w.drew _) (Nat.le_of_eq hsize.symm) (fun o _ h => by omega)
      (fun k hk _ => by show (E.w.heap.push _)[k]? = _; rw [Array.getElem?_push, if_neg (by omega)]) (.inl (Nat.le_refl _)) (fun F0 h1 => ⟨by have := hmono F0 h1; omega, fun e1 => by have := hmono F0 h1; omega⟩)
    refine ⟨_, _, hrun, k1, k2, ?_⟩
    have hflat : V.flat (xs ++ ys) = V.flat xs ++ V.flat ys := by simp [V.flat]
    have hlen : (xs ++ ys).length = xs.length + ys.length := by simp
    refine .slOf hlen (sz := te.size) (vals := olds ++ news) (fun x hx => ?_) hge hcm (by rw [hflat]; exact (hor.append hnr).evolve k1.ev) (fun j x hj => ⟨.inr ⟨rfl, ?_⟩, ?_⟩)
      (.inr ⟨⟨xs.length + ys.length, some E.w.heap.size, _, te.size⟩, by simp only [Env.grow, if_true]; rfl, Nat.le_refl _, fun _ => ⟨rfl, rfl, rfl, rfl⟩⟩)
    · rcases List.mem_append.1 hx with hx | hx
      · exact hxsz x hx
      · exact hysz x hx
    · have := (List.getElem?_eq_some_iff.1 hj).1
      rw [List.length_append, hol, hnl, ← Nat.add_mul] at this
      omega
    · show (E.w.drew.alloc _).cell? _ = _
      have hsz0 : E.w.heap.size = E.w.drew.heap.size := rfl
      rw [hsz0, World.cell?_alloc_new, Nat.zero_add]
      have hj1 := (List.getElem?_eq_some_iff.1 hj).1
      rw [Array.getElem?_append_left (by simp only [Array.size_append, List.size_toArray, List.length_append] at *; omega)]
      simpa using hj
  rcases hbase with ⟨rfl, rfl, hnone⟩ | ⟨g, xv, rfl, hFb, rfl, hsf, hxr, hseg, hxsz⟩
  · -- nothing there
    simp only [List.length_nil, Nat.zero_add] at *
    cases base with
    | none =>
      refine grown [] 0 (by simp) (by simpa [V.flat] using RepL.nil) (by simp) (by omega) ?_
      have := run_append_nil (P := P) E.w T ty e i z hd hi hz a ys.length c news (by rw [← hs]; exact hnl) hnews hpos (by omega) (by rw [← hby]; omega)
      simpa using this
    | some b =>
      refine grown [] 0 (by simp) (by simpa [V.flat] using RepL.nil) (by simp) (by omega) ?_
      have := run_append_grow (P := P) E.w T ty e i z hd hi hz b 0 0 [] (by simp) (fun j v hj => by simp at hj) a ys.length c news (by rw [← hs]; exact hnl) hnews (by omega) (by omega) (growslice_fits (by omega) (by rw [← hby]; simpa using hb1))
      simpa using this
  · -- block g
    rcases hF with ⟨_, hEF⟩ | ⟨rfl, _, _⟩
    case inr =>
      obtain ⟨_, F1, k1, _⟩ := hr.fam _ _ _ hsf
      rw [(hr.fresh s.next (Nat.le_refl _)).2] at k1
      cases k1
    obtain ⟨_, F1, k1, k2, k3, k4, k5, k6⟩ := hr.fam _ _ _ hsf
    rw [hEF] at k1
    cases k1
    obtain ⟨arr, et, fr, k7, k8, k8', k9⟩ := k6 g hFb
    have hxl := hxr.length
    rw [flat_uniform hxsz] at hxl
    have hxvcell : ∀ j u, xv[j]? = some u → E.w.cell? ((⟨g, 0, none⟩ : Addr).add j) = some u := fun j u hj => by rw [add_eq]; exact (hseg j u hj).2
    by_cases hroom : xs.length + ys.length ≤ F.cap
    · have hfit : xs.length * i.size + news.length ≤ arr.size := by
        rw [hnl, ← hs, ← Nat.add_mul]
        exact Nat.le_trans (Nat.mul_le_mul_right _ hroom) k8
      have htake : arr.toList.take (xs.length * i.size) = xv := by
        apply List.ext_getElem?
        intro j
        rw [← hs]
        by_cases hj : j < xs.length * te.size
        · rw [List.getElem?_take, if_pos hj]
          have hx1 : xv[j]? = some (xv[j]'(by omega)) := List.getElem?_eq_getElem _
          have h2 := (hseg j _ hx1).2
          rw [cell_of_row E.w _ _ arr et fr k7, Nat.zero_add] at h2
          rw [hx1]
          simpa using h2
        · rw [List.getElem?_take, if_neg hj, List.getElem?_eq_none (by omega)]
      have hla : arr.toList.length = arr.size := Array.length_toList
      have hxi : xs.length * i.size = xs.length * te.size := by rw [hs]
      have hrun := run_append_room' (P := P) (w := E.w) (ty := ty) hd hi k7 (fun x q1 q2 => k8' x (by rw [← hs, ← Nat.add_mul] at q2; exact Nat.lt_of_lt_of_le q2 (Nat.mul_le_mul_right _ hroom))) (a := a) (m := ys.length) (c := c) (news := news) (by rw [← hs]; exact hnl) hnews hone hroom hfit
      rw [htake] at hrun
      obtain ⟨q1, q2⟩ := step_grow (w := E.w.setRow g (xv ++ news ++ arr.toList.drop (xs.length * i.size + news.length)).toArray) (g := g) (arr := (xv ++ news ++ arr.toList.drop (xs.length * i.size + news.length)).toArray) (e := et)
        (F := ⟨xs.length + ys.length, some g, F.cap, te.size⟩) hr hs' rfl rfl rfl (by simp) rfl rfl rfl hroom k4 (setRow_heap E.w g arr _ et _ k7)
        (by
          simp only [List.size_toArray, List.length_append, List.length_drop, Array.length_toList] at *
          omega) k8'
        (fun k hk hne => setRow_other E.w g k _ hne)
        (.inr ⟨F, xs.length, hsf, hEF, hFb, by omega, fun o ho => by
          rw [cell_of_row _ _ _ _ et fr (setRow_heap E.w g arr _ et _ k7), cell_of_row E.w _ _ arr et fr k7, ← htake]
          rw [List.getElem?_toArray, List.append_assoc, List.getElem?_append_left (by rw [List.length_take, hla, hxi]; omega), List.getElem?_take, if_pos (by rw [← hs]; exact ho)]
          simp⟩)
        (fun F0 h1 => ⟨by have := hmono F0 h1; omega, fun e1 => by have := hmono F0 h1; omega⟩)
      refine ⟨_, _, hrun, q1, q2, ?_⟩
      have hflat : V.flat (xs ++ ys) = V.flat xs ++ V.flat ys := by simp [V.flat]
      have hlen : (xs ++ ys).length = xs.length + ys.length := by simp
      refine .slOf hlen (sz := te.size) (vals := xv ++ news) (fun x hx => ?_) hroom k4 (by rw [hflat]; exact (hxr.append hnr).evolve q1.ev) (fun j x hj => ⟨.inr ⟨rfl, ?_⟩, ?_⟩)
        (.inr ⟨⟨xs.length + ys.length, some g, F.cap, te.size⟩, by simp only [Env.grow, if_true], Nat.le_refl _, fun _ => ⟨rfl, rfl, rfl, rfl⟩⟩)
      · rcases List.mem_append.1 hx with hx | hx
        · exact hxsz x hx
        · exact hysz x hx
      · have := (List.getElem?_eq_some_iff.1 hj).1
        rw [List.length_append, hxl, hnl, ← Nat.add_mul] at this
        omega
      · show (E.w.setRow g _).cell? _ = _
        rw [cell_of_row _ _ _ _ et fr (setRow_heap E.w g arr _ et _ k7), Nat.zero_add, List.getElem?_toArray, List.getElem?_append_left (List.getElem?_eq_some_iff.1 hj).1]
        exact hj
    · refine grown xv F.cap hxl hxr hxsz (by omega) ?_
      have := run_append_grow (P := P) E.w T ty e i z hd hi hz ⟨g, 0, none⟩ xs.length F.cap xv (by rw [← hs]; exact hxl) hxvcell a ys.length c news (by rw [← hs]; exact hnl) hnews (by omega) (by omega) (growslice_fits (by omega) (by rw [← hby]; exact hb1))
      exact this

/-- A family of no element and no place. -/
theorem step_emptyFam {E : Env} {s : S} (hr : RelS E s) (sz : Nat) :
    Step E s { E with fam := fun x => if x = s.next then some ⟨0, none, 0, sz⟩ else E.fam x } (s.newFam 0 sz) ∧ RelS { E with fam := fun x => if x = s.next then some ⟨0, none, 0, sz⟩ else E.fam x } (s.newFam 0 sz) := by
  have hf := hr.fresh s.next (Nat.le_refl _)
  have hfs : s.fams s.next = none := by
    cases hc : s.fams s.next with
    | none => rfl
    | some p => obtain ⟨_, F, h1, _⟩ := hr.fam _ p.1 p.2 hc; rw [hf.2] at h1; cases h1
  have ev : Evolve E { E with fam := fun x => if x = s.next then some ⟨0, none, 0, sz⟩ else E.fam x } := by
    refine ⟨fun _ _ i => i, fun _ _ _ => rfl, fun _ _ h => h, fun id F hF => ⟨F, ?_, Nat.le_refl _, fun _ => rfl⟩⟩
    have : id ≠ s.next := fun e => by rw [e, hf.2] at hF; cases hF
    simpa [this] using hF
  have hfam : ∀ x, x ≠ s.next → (s.newFam 0 sz).fams x = s.fams x := fun x hx => by simp [S.newFam, hx]
  refine hr.fin ?_ ?_
  · refine ⟨ev, rfl, rfl, rfl, Nat.le_refl _, fun _ _ _ => rfl, fun k hk ht => ?_, by simp [S.newFam]⟩
    rcases ht with ⟨l, hl, hg⟩ | ⟨id, F, hl, hF, hg⟩
    · exact .inl ⟨l, hl, hg⟩
    · by_cases e1 : id = s.next
      · simp only [e1, if_true, Option.some.injEq] at hF
        subst hF
        cases hg
      · rw [hfam id e1] at hl
        simp only [e1, if_false] at hF
        exact .inr ⟨id, F, hl, hF, hg⟩
  · refine ⟨fun l cs hl => ?_, hr.varinj, fun id n sz' hid => ?_, fun id id' F F' g h1 h2 h3 h4 h5 h6 => ?_, fun l g id F h1 h2 h3 h4 h5 => ?_, fun l hl => ?_, by simp [S.newFam], hr.imm⟩
    · obtain ⟨g, arr, e, fr, h1, h2⟩ := hr.var l cs hl
      exact ⟨g, arr, e, fr, h1, h2.evolve ev rfl h2.imm⟩
    · by_cases e1 : id = s.next
      · subst e1
        simp [S.newFam] at hid
        obtain ⟨rfl, rfl⟩ := hid
        exact ⟨Nat.ne_of_gt hr.pos, ⟨0, none, 0, sz⟩, by simp, ⟨rfl, rfl⟩, Nat.le_refl _, Nat.zero_le _, fun _ => rfl, fun g hg => by cases hg⟩
      · rw [hfam id e1] at hid
        obtain ⟨h00, F, h1, h2⟩ := hr.fam id n sz' hid
        exact ⟨h00, F, by simpa [e1] using h1, h2⟩
    · by_cases e1 : id = s.next
      · simp only [e1, if_true, Option.some.injEq] at h3
        subst h3
        cases h5
      · by_cases e2 : id' = s.next
        · simp only [e2, if_true, Option.some.injEq] at h4
          subst h4
          cases h6
        · rw [hfam id e1] at h1
          rw [hfam id' e2] at h2
          simp only [e1, e2, if_false] at h3 h4
          exact hr.faminj id id' F F' g h1 h2 h3 h4 h5 h6
    · by_cases e1 : id = s.next
      · simp only [e1, if_true, Option.some.injEq] at h4
        subst h4
        simp at h5
      · rw [hfam id e1] at h3
        simp only [e1, if_false] at h4
        exact hr.famvar l g id F h1 h2 h3 h4 h5
    · have hl' : s.next + 1 ≤ l := hl
      have := hr.fresh l (by omega)
      exact ⟨this.1, by simp [show l ≠ s.next by omega, this.2]⟩

theorem append_new {P : Program} {T ty e : TypeId} {i : TypeInfo} {z : Value} {te : Ty} (hd : P.underlying T = some (.slice e)) (hi : P.info? e = some i) (hz : i.zero = some z) (hzs : z.cells.size = i.size) (hs : te.size = i.size)
    (hby : te.bytes = i.bytes) {E : Env} {s : S} (hr : RelS E s) {ys : List V} {base : Option Addr}
    {a : Option Addr} {c : Nat} {news : List Value} (hnl : news.length = ys.length * te.size) (hnr : RepL E (V.flat ys) news) (hnews : ∀ b, a = some b → ∀ j u, news[j]? = some u → E.w.cell? (b.add j) = some u)
    (hnone : a = none → ys.length = 0) (hysz : ∀ y ∈ ys, y.cells.length = te.size) (hone : ∀ u ∈ news, u.oneCell' = true) (hb1 : ys.length * te.bytes ≤ 140737488355328) (hb2 : ys.length ≤ 140737488355328) :
    Does P (Builtin.append_ #[T, T] ty #[.slice base 0 0, .slice a ys.length c]) E s (.sl s.next ys) (s.newFam ys.length te.size) := by
  by_cases hy0 : ys.length = 0
  · have hyn : ys = [] := List.eq_nil_of_length_eq_zero hy0
    subst hyn
    obtain ⟨k1, k2⟩ := step_emptyFam hr te.size
    exact ⟨_, { E with fam := fun x => if x = s.next then some ⟨0, none, 0, te.size⟩ else E.fam x }, run_append_none hd hi _ _ _ _ _ (Nat.le_refl 0), k1, k2, .slz (.inr ⟨⟨0, none, 0, te.size⟩, by simp, fun _ => rfl⟩)⟩
  · obtain ⟨a, rfl⟩ : ∃ b, a = some b := by
      cases a with
      | none => exact absurd (hnone rfl) hy0
      | some b => exact ⟨b, rfl⟩
    have := append_core (P := P) (ty := ty) (xs := []) (F := ⟨0, none, 0, te.size⟩) (base := base) (cap := 0) hd hi hz hzs hs hby hr (id := s.next) (s' := s.newFam ys.length te.size) (.inr ⟨rfl, by simp⟩) (.inr ⟨rfl, rfl, rfl⟩) (.inl ⟨rfl, rfl, fun _ => rfl⟩)
      (c := c) (by omega) hnl hnr (hnews a rfl) hysz hone (by simpa using hb1) (by simpa using hb2)
    simpa using this

theorem vappend_sound {P : Program} {T ty : TypeId} {x y v : V} {s s' : S} {E : Env} {xv yv : Value} (hr : RelS E s) (hx : RepV E x xv) (hy : RepV E y yv) (h : vappend P T x y s = some (v, s')) :
    Does P (Builtin.append_ #[T, T] ty #[xv, yv]) E s v s' := by
  simp only [vappend, Option.bind_eq_some_iff] at h
  obtain ⟨t, ht, h⟩ := h
  obtain ⟨_, d, _, hd, hk, _⟩ := tyOf_parts ht
  split at h
  case h_2 => cases h
  rename_i e hkd
  rw [hkd] at hk
  have : d = .slice e := by cases d <;> simp [kdOf] at hk; rw [hk]
  subst this
  simp only [Option.bind_eq_some_iff] at h
  obtain ⟨te, hte, ys, hys, h1⟩ := h
  split at h1
  case isFalse => cases h1
  rename_i h0
  obtain ⟨h01, h02, h03⟩ := h0
  obtain ⟨i, z, hi, hz, hs, hzs, hrep⟩ := zero_rep hte ⟨h01, h02⟩
  obtain ⟨i', _, hi', _, _, _, hb, _⟩ := tyOf_parts hte
  rw [hi] at hi'
  cases hi'
  have hysz : ∀ y ∈ ys, y.cells.length = te.size := fun y hy => by
    have := List.all_eq_true.1 h03 y hy
    simp only [Bool.and_eq_true, decide_eq_true_eq] at this
    exact this.1
  have hyone : (V.flat ys).all V.one = true := by
    rw [List.all_eq_true]
    intro c hc
    obtain ⟨y, hy, hcy⟩ := List.mem_flatMap.1 hc
    have := List.all_eq_true.1 h03 y hy
    simp only [Bool.and_eq_true, List.all_eq_true] at this
    exact this.2 c hcy
  obtain ⟨a, m, c, news, rfl, hm, hmc, hnl, hnr, hnews, hnone⟩ := elems_sound hte h02 hr hy hys hysz
  subst hm
  have hone := RepL.one hnr hyone
  split at h1
  · -- a slice of a family
    rename_i id xs
    simp only [Option.bind_eq_some_iff] at h1
    obtain ⟨⟨f1, f2⟩, hf, h1⟩ := h1
    split at h1
    case isFalse => cases h1
    rename_i hc
    simp only at hc
    obtain ⟨rfl, rfl, c3, c4⟩ := hc
    cases h1
    obtain ⟨hid0, F, k1, ⟨k2, k2z⟩, k3, k4, k5, k6⟩ := hr.fam _ _ _ hf
    by_cases hy0 : ys.length = 0
    · have hyn : ys = [] := List.eq_nil_of_length_eq_zero hy0
      subst hyn
      have hW : RelS E (s.setFam id (xs.length + 0) te.size) := hr.weaken (fun _ _ h => h) (repl_zero hf) (Nat.le_refl _)
      have hS : Step E s E (s.setFam id (xs.length + 0) te.size) := (Step.refl E s).weaken (fun _ _ h => h) (repl_zero hf) (Nat.le_refl _)
      refine ⟨xv, E, ?_, hS, hW, by simpa using hx⟩
      cases hx with
      | sl q1 q2 q3 => exact run_append_none hd hi _ _ _ _ _ q2
      | slz => exact run_append_none hd hi _ _ _ _ _ (Nat.le_refl 0)
    · obtain ⟨a, rfl⟩ : ∃ b, a = some b := by
        cases a with
        | none => exact absurd (hnone rfl) hy0
        | some b => exact ⟨b, rfl⟩
      cases hx with
      | @sl _ _ xvals g off cap sz q1 q2 q3 r sg f =>
        rcases f with rfl | ⟨F', hF', hle, hfe⟩
        · exact absurd rfl hid0
        · rw [k1] at hF'
          cases hF'
          obtain ⟨e1, rfl, rfl, e4⟩ := hfe k2.symm
          have hxsz : ∀ x ∈ xs, x.cells.length = te.size := fun x hx => by rw [q1 x hx, e4, k2z]
          exact append_core hd hi hz hzs hs hb hr (.inl ⟨by rw [hf]; rfl, rfl⟩) (.inl ⟨hf, k1⟩) (.inr ⟨g, xvals, rfl, e1, rfl, hf, r, sg, hxsz⟩) (by omega) hnl hnr (hnews a rfl) hysz hone c3 c4
      | slz f =>
        rcases f with rfl | ⟨F', hF', hfe⟩
        · exact absurd rfl hid0
        · rw [k1] at hF'
          cases hF'
          exact append_core (xs := []) hd hi hz hzs hs hb hr (.inl ⟨by rw [hf]; rfl, rfl⟩) (.inl ⟨hf, k1⟩) (.inl ⟨rfl, rfl, fun _ => hfe k2⟩) (by omega) hnl hnr (hnews a rfl) hysz hone c3 c4
  · split at h1
    case isFalse => cases h1
    rename_i hc
    cases h1
    cases hx
    exact append_new hd hi hz hzs hs hb hr hnl hnr hnews hnone hysz hone hc.1 hc.2
  · split at h1
    case isFalse => cases h1
    rename_i hc
    cases h1
    cases hx
    exact append_new hd hi hz hzs hs hb hr hnl hnr hnews hnone hysz hone hc.1 hc.2
  · cases h1

end Go.Proofs.YtbnbmcplmipgdaaGreatDoor

namespace Go.Proofs.YtbnbmcplmipgdaaGreatDoor
open Go

def vbytes : List V → Option (List UInt8)
  | [] => some []
  | .int .u8 n :: r => (vbytes r).map (UInt8.ofNat n.toNat :: ·)
  | _ => none

def vtoStr (P : Program) (U T : TypeId) (x : V) (s : S) : Option V :=
  (tyOf P U).bind fun u => (tyOf P T).bind fun t => match u.kd, t.kd with
    | .slice e, .string => (tyOf P e).bind fun te => match te.kd with
      | .int .u8 => if te.size = 1 then (elemsOf te x s).bind fun ys => (vbytes ys).map .str else none
      | _ => none
    | _, _ => none

theorem vbytes_sound {E : Env} : ∀ {ys : List V} {bs : List UInt8} {yv : List Value}, vbytes ys = some bs → RepL E (V.flat ys) yv → (∀ y ∈ ys, y.cells.length = 1) ∧
    ∃ ns : List Int, yv = ns.map (Value.int .u8) ∧ bs = ns.map fun n => UInt8.ofNat n.toNat
  | [], bs, yv, h, r => by
    cases h
    have : yv = [] := by cases r; rfl
    subst this
    exact ⟨by simp, [], rfl, rfl⟩
  | y :: ys, bs, yv, h, r => by
    unfold vbytes at h
    split at h
    · cases ‹_ :: _ = []›
    · rename_i n r' heq
      cases heq
      obtain ⟨bs', hbs, rfl⟩ := Option.map_eq_some_iff.1 h
      have e : V.flat (V.int .u8 n :: ys) = .int .u8 n :: V.flat ys := by simp [V.flat, V.cells]
      rw [e] at r
      cases r with
      | cons h1 h2 =>
        cases h1
        obtain ⟨k1, ns, rfl, rfl⟩ := vbytes_sound hbs h2
        exact ⟨fun y hy => by
          rcases List.mem_cons.1 hy with rfl | hy
          · rfl
          · exact k1 y hy, n :: ns, rfl, rfl⟩
    · cases h

theorem foldl_push (ns : List Int) : ∀ b : ByteArray, ns.foldl (fun r n => r.push (UInt8.ofNat n.toNat)) b = ⟨(b.data.toList ++ ns.map fun n => UInt8.ofNat n.toNat).toArray⟩ := by
  induction ns with
  | nil => intro b; simp
  | cons n ns ih =>
    intro b
    rw [List.foldl_cons, ih]
    simp [ByteArray.push]

theorem vbytes_len {ys : List V} {bs : List UInt8} (h : vbytes ys = some bs) : bs.length = ys.length := by
  induction ys generalizing bs with
  | nil => cases h; rfl
  | cons y ys ih =>
    unfold vbytes at h
    split at h
    · cases ‹_ :: _ = []›
    · rename_i heq
      cases heq
      obtain ⟨bs', hbs, rfl⟩ := Option.map_eq_some_iff.1 h
      simp [ih hbs]
    · cases h

theorem vbytes_cells : ∀ {ys : List V} {bs : List UInt8}, vbytes ys = some bs → ∀ y ∈ ys, y.cells.length = 1
  | [], _, _, y, hy => by cases hy
  | z :: zs, bs, h, y, hy => by
    unfold vbytes at h
    split at h
    · cases ‹_ :: _ = []›
    · rename_i heq
      cases heq
      obtain ⟨bs', hbs', rfl⟩ := Option.map_eq_some_iff.1 h
      rcases List.mem_cons.1 hy with rfl | hy
      · rfl
      · exact vbytes_cells hbs' y hy
    · cases h

theorem bytes_rep {E : Env} : ∀ b : List UInt8, RepL E (b.map fun c => V.int .u8 c.toNat) (b.map fun c => Value.int .u8 c.toNat)
  | [] => .nil
  | c :: b => by
    refine .cons (.int (by simp [IntKind.min, IntKind.signed]) ?_) (bytes_rep b)
    have := c.toNat_lt
    simp [IntKind.max, IntKind.signed, IntKind.bits]
    omega

theorem vtoStr_sound {P : Program} {U T : TypeId} {x v : V} {s : S} {E : Env} {xv : Value} (hr : RelS E s) (hx : RepV E x xv) (h : vtoStr P U T x s = some v) :
    ∃ val, (convert U T xv).run P E.w = .ok val E.w ∧ RepV E v val := by
  simp only [vtoStr, Option.bind_eq_some_iff] at h
  obtain ⟨u, hu, t, ht, h⟩ := h
  obtain ⟨_, d', _, hd', hk', _⟩ := tyOf_parts hu
  obtain ⟨_, d, _, hd, hk, _⟩ := tyOf_parts ht
  split at h
  case h_2 => cases h
  rename_i e hku hkt
  rw [hku] at hk'
  rw [hkt] at hk
  have : d' = .slice e := by cases d' <;> simp [kdOf] at hk'; rw [hk']
  subst this
  have : d = .string := by cases d <;> simp [kdOf] at hk; rfl
  subst this
  simp only [Option.bind_eq_some_iff] at h
  obtain ⟨te, hte, h⟩ := h
  obtain ⟨_, de, _, hde, hke, _⟩ := tyOf_parts hte
  split at h
  case h_2 => cases h
  rename_i hkte
  rw [hkte] at hke
  have : de = .int .u8 := by cases de <;> simp [kdOf] at hke; rw [hke]
  subst this
  split at h
  case isFalse => cases h
  rename_i hts
  obtain ⟨ys, hys, h⟩ := Option.bind_eq_some_iff.1 h
  obtain ⟨bs, hbs, rfl⟩ := Option.map_eq_some_iff.1 h
  have hyc : ∀ y ∈ ys, y.cells.length = te.size := by rw [hts]; exact vbytes_cells hbs
  obtain ⟨a, m, c, news, rfl, hm, hmc, hnl, hnr, hnews, hnone⟩ := elems_sound hte (by omega) hr hx hys hyc
  obtain ⟨_, ns, rfl, rfl⟩ := vbytes_sound hbs hnr
  rw [run_convert_bytes_string E.w U T e a m c hd' hde hd]
  have hlen : (ns.map fun n => UInt8.ofNat n.toNat).length ≤ maxLen := by
    have h1 := vbytes_len hbs
    rw [h1]
    cases hx with
    | sl q1 q2 q3 => cases hys; omega
    | slz => have : ys.length = 0 := by omega
             rw [this]; exact Nat.zero_le _
    | zsl => have : ys.length = 0 := by omega
             rw [this]; exact Nat.zero_le _
    | nilsl => have : ys.length = 0 := by omega
               rw [this]; exact Nat.zero_le _
    | slm q1 q2 q3 _ => omega
    | slm0 => omega
    | raw => cases hys
  cases a with
  | none =>
    have h0 : ns = [] := by
      have := hnone rfl
      rw [this] at hnl
      simpa using hnl
    subst h0
    refine ⟨.string .empty, by simp [Conv.bytesToString], ?_⟩
    have := RepV.str (E := E) (s := []) (Nat.zero_le _)
    exact this
  | some b =>
    have hload : (loadCells b m).run P E.w = .ok (ns.map (Value.int .u8)).toArray E.w := by
      have := run_loadCells_list (P := P) E.w b (ns.map (Value.int .u8)) (fun j u hj => hnews b rfl j u hj)
      rwa [hnl, hts, Nat.mul_one] at this
    rw [run_bytesToString E.w b m c ns hload, foldl_push]
    refine ⟨_, rfl, ?_⟩
    have := RepV.str (E := E) hlen
    simpa using this

theorem bytesWorld_eq (w : World) (e : TypeId) (s : ByteArray) :
    Lib.bytesWorld w e s = w.drew.alloc (.cells (Lib.bytesCells w e s) e ((Lib.bytesCells w e s).size, (Lib.bytesCells w e s).size + 1)) := by
  have h : (Lib.bytesWorld w e s).heap = (w.drew.alloc (.cells (Lib.bytesCells w e s) e ((Lib.bytesCells w e s).size, (Lib.bytesCells w e s).size + 1))).heap := by
    apply Array.ext_getElem?
    intro i
    rcases Nat.lt_trichotomy i w.heap.size with hi | rfl | hi
    · rw [Lib.bytesWorld_at_old w e s i hi]
      show _ = (w.heap.push _)[i]?
      rw [Array.getElem?_push, if_neg (by omega)]
    · rw [Lib.bytesWorld_at_new]
      show _ = (w.heap.push _)[w.heap.size]?
      simp
    · rw [Array.getElem?_eq_none (by rw [Lib.bytesWorld_size]; omega)]
      show _ = (w.heap.push _)[i]?
      rw [Array.getElem?_eq_none (by simp; omega)]
  unfold Lib.bytesWorld World.freeze at *
  simp only [Nat.one_ne_zero, if_false] at h ⊢
  unfold World.alloc World.drew at *
  simp only at h
  rw [h]

def vtoBytes (P : Program) (U T : TypeId) (x : V) (s : S) : Option (V × S) :=
  (tyOf P U).bind fun _ => (tyOf P T).bind fun t => match t.kd, x with
    | .slice e, .str b => (tyOf P e).bind fun te => match te.kd with
      | .int .u8 => some (.slm .un s.next 0 b.length, s.newVar (b.map fun c => .int .u8 c.toNat))
      | _ => none
    | _, _ => none

theorem vtoBytes_sound {P : Program} {U T : TypeId} {x v : V} {s s' : S} {E : Env} {xv : Value} (hr : RelS E s) (hx : RepV E x xv) (h : vtoBytes P U T x s = some (v, s')) : Does P (convert U T xv) E s v s' := by
  simp only [vtoBytes, Option.bind_eq_some_iff] at h
  obtain ⟨u, hu, t, ht, h⟩ := h
  obtain ⟨_, d', _, hd', _⟩ := tyOf_parts hu
  obtain ⟨_, d, _, hd, hk, _⟩ := tyOf_parts ht
  split at h
  case h_2 => cases h
  rename_i e b hkd
  rw [hkd] at hk
  have : d = .slice e := by cases d <;> simp [kdOf] at hk; rw [hk]
  subst this
  obtain ⟨te, hte, h⟩ := Option.bind_eq_some_iff.1 h
  obtain ⟨_, de, _, hde, hke, _⟩ := tyOf_parts hte
  split at h
  case h_2 => cases h
  rename_i hkte
  rw [hkte] at hke
  have : de = .int .u8 := by cases de <;> simp [kdOf] at hke; rw [hke]
  subst this
  cases h
  cases hx with
  | str hl =>
    have hrun := Lib.run_convert_string_bytes (P := P) E.w U T e ⟨b.toArray⟩ hd' hd hde
    rw [bytesWorld_eq] at hrun
    obtain ⟨k0, kr⟩ := step_drew hr
    have hbs : (⟨b.toArray⟩ : ByteArray).size = b.length := by simp [ByteArray.size]
    have hge := grownCap_ge E.w b.length 0 e
    have hcm := grownCap_le_maxLen E.w b.length 0 e hl
    have hcells : (Lib.bytesCells E.w e ⟨b.toArray⟩).toList = b.map (fun c => Value.int .u8 c.toNat) ++ List.replicate (grownCap E.w b.length 0 e - b.length) (.int .u8 0) := by
      simp [Lib.bytesCells, hbs]
    have hsz : (Lib.bytesCells E.w e ⟨b.toArray⟩).size = grownCap E.w b.length 0 e := by
      rw [← Array.length_toList, hcells]
      simp
      omega
    have hrep : RepL E.drew (b.map fun c => V.int .u8 c.toNat) (b.map fun c => Value.int .u8 c.toNat) := bytes_rep b
    obtain ⟨k1, k2⟩ := step_newVar (arr := Lib.bytesCells E.w e ⟨b.toArray⟩) (cs := b.map fun c => V.int .u8 c.toNat) kr (by
        rw [hcells, List.length_map, List.take_append_of_le_length (by simp), List.take_of_length_le (by simp)]
        exact hrep) (by rw [hsz, List.length_map]; exact hge) e ((Lib.bytesCells E.w e ⟨b.toArray⟩).size, (Lib.bytesCells E.w e ⟨b.toArray⟩).size + 1) (fun o ho hc => by
        rw [List.length_map] at ho
        rw [hsz] at hc
        omega)
    refine ⟨_, _, hrun, k0.trans k1, k2, ?_⟩
    rw [hbs]
    exact .slm (by simp [Env.newVar]; rfl) hge hcm trivial

end Go.Proofs.YtbnbmcplmipgdaaGreatDoor
