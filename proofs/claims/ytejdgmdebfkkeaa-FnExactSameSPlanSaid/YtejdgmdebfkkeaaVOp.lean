/-
  One operation at the value level, and that the model's operation does what it says. Own work; no condition.
-/
import Derived.Test.YtejdgmdebfkkeaaVRel
namespace Go.Proofs.Ytejdgmdebfkkeaa
open Go

/-- A field: where, how many cells, a struct or an array, and which kind: 1: an integer, 2: a string, 3: a bool; 0: else. -/
structure FieldI where
  off : Nat
  size : Nat
  agg : Bool
  tag : Nat

inductive Kd where
  | int (k : IntKind) | bool | string | other
  | slice (elem : TypeId)
  | struct (fs : List FieldI) (eqs : Bool)

structure Ty where
  size : Nat
  bytes : Nat
  zero : List V
  kd : Kd

def Ty.agg (t : Ty) : Bool := match t.kd with | .struct _ _ => true | _ => false

/-- A value of one cell that leads to no memory. -/
def vOf1 : Value → Option V
  | .int k n => if k.min ≤ n ∧ n ≤ k.max then some (.int k n) else none
  | .bool b => some (.bool b)
  | .string s => if s.data.toList.length ≤ maxLen then some (.str s.data.toList) else none
  | .pointer none => some .nilp
  | .slice none 0 0 => some .nilsl
  | _ => none

def vOfL : List Value → Option (List V)
  | [] => some []
  | v :: vs => (vOf1 v).bind fun x => (vOfL vs).map (x :: ·)

def vOf : Value → Option V
  | .agg cs => (vOfL cs.toList).map .agg
  | v => vOf1 v

def isAggD : TypeDesc → Bool
  | .struct _ | .array _ _ => true
  | _ => false

def tagD : TypeDesc → Nat
  | .int _ => 1
  | .string => 2
  | .bool => 3
  | _ => 0

def fieldOf (P : Program) (f : Field) : Option FieldI :=
  (P.info? f.type).bind fun i => (P.underlying f.type).map fun d => ⟨f.offset, i.size, isAggD d, if f.name = "_" then 0 else tagD d⟩

def fieldsOf (P : Program) : List Field → Option (List FieldI)
  | [] => some []
  | f :: fs => (fieldOf P f).bind fun x => (fieldsOf P fs).map (x :: ·)

def kdOf (P : Program) (T : TypeId) : TypeDesc → Option Kd
  | .int k => some (.int k)
  | .bool => some .bool
  | .string => some .string
  | .slice e => some (.slice e)
  | .struct fs => (fieldsOf P fs.toList).map fun l => .struct l (!P.stoodInHeld T && !P.eqGuardType P.depth T)
  | .array _ _ => none
  | _ => some .other

def tyOf (P : Program) (T : TypeId) : Option Ty :=
  (P.info? T).bind fun i => (P.underlying T).bind fun d => (kdOf P T d).map fun k => ⟨i.size, i.bytes, match i.zero with | some z => (vOfL z.cells.toList).getD [] | none => [], k⟩

theorem tyOf_parts {P : Program} {T : TypeId} {t : Ty} (h : tyOf P T = some t) :
    ∃ i d, P.info? T = some i ∧ P.underlying T = some d ∧ kdOf P T d = some t.kd ∧ t.size = i.size ∧ t.bytes = i.bytes ∧ isAggD d = t.agg ∧
      t.zero = (match i.zero with | some z => (vOfL z.cells.toList).getD [] | none => []) := by
  unfold tyOf at h
  simp only [Option.bind_eq_some_iff, Option.map_eq_some_iff] at h
  obtain ⟨i, hi, d, hd, k, hk, rfl⟩ := h
  refine ⟨i, d, hi, hd, hk, rfl, rfl, ?_, rfl⟩
  cases d <;> simp_all only [kdOf, isAggD, Ty.agg, Option.some.injEq, Option.map_eq_some_iff, reduceCtorEq] <;> first | (subst hk; rfl) | (obtain ⟨_, _, rfl⟩ := hk; rfl)

theorem vOf1_sound {E : Env} {val : Value} {v : V} (h : vOf1 val = some v) : RepV E v val := by
  unfold vOf1 at h
  split at h
  · split at h
    · rename_i hc; cases h; exact .int hc.1 hc.2
    · cases h
  · cases h; exact .bool
  · split at h
    · rename_i s hc
      cases h
      have := RepV.str (E := E) (s := s.data.toList) hc
      simpa using this
    · cases h
  · cases h; exact .nilp
  · cases h; exact .nilsl
  · cases h

theorem vOfL_sound {E : Env} : ∀ {vals : List Value} {vs : List V}, vOfL vals = some vs → RepL E vs vals
  | [], vs, h => by cases h; exact .nil
  | val :: vals, vs, h => by
    simp only [vOfL, Option.bind_eq_some_iff, Option.map_eq_some_iff] at h
    obtain ⟨x, hx, l, hl, rfl⟩ := h
    exact .cons (vOf1_sound hx) (vOfL_sound hl)

theorem vOf_sound {E : Env} {val : Value} {v : V} (h : vOf val = some v) : RepV E v val := by
  unfold vOf at h
  split at h
  · rename_i cs
    obtain ⟨vs, hvs, rfl⟩ := Option.map_eq_some_iff.1 h
    have := RepV.agg (vOfL_sound (E := E) hvs)
    simpa using this
  · exact vOf1_sound h

/-! ### The frame -/
def put (σ : Nat → V) (d : Nat) (v : V) : Nat → V := fun t => if t = d then v else σ t

structure RepA (E : Env) (σ : Nat → V) (N : Nat) (a : Act) : Prop where
  slot : ∀ t, RepV E (σ t) (a.tmps.getD t undef)
  size : a.tmps.size = N
  defers : a.defers = []

theorem RepA.evolve {E E' : Env} {σ : Nat → V} {N : Nat} {a : Act} (h : RepA E σ N a) (ev : Evolve E E') : RepA E' σ N a :=
  ⟨fun t => (h.slot t).evolve ev, h.size, h.defers⟩

theorem RepA.put {E : Env} {σ : Nat → V} {N : Nat} {a : Act} (h : RepA E σ N a) {d : Nat} (hd : d < N) {v : V} {val : Value} (hv : RepV E v val) : RepA E (put σ d v) N (a.put (some d) val) := by
  refine ⟨fun t => ?_, by simp [Act.put, h.size], h.defers⟩
  by_cases e : t = d
  · subst e
    have : (a.tmps.setIfInBounds t val).getD t undef = val := by
      have := h.size
      simp [Array.getD_eq_getD_getElem?, show t < a.tmps.size by omega]
    simpa [Go.Proofs.Ytejdgmdebfkkeaa.put, Act.put, this] using hv
  · have : (a.tmps.setIfInBounds d val).getD t undef = a.tmps.getD t undef := by
      simp [Array.getD_eq_getD_getElem?, Ne.symm e]
    simpa only [Go.Proofs.Ytejdgmdebfkkeaa.put, Act.put, this, if_neg e] using h.slot t

def vev (σ : Nat → V) : Operand → Option V
  | .tmp t => some (σ t)
  | .const v => vOf v
  | .func f => some (.fn f [])
  | .global _ => none

theorem vev_sound {E : Env} {σ : Nat → V} {N : Nat} {a : Act} (h : RepA E σ N a) {x : Operand} {v : V} (hx : vev σ x = some v) : RepV E v (a.eval x) := by
  cases x with
  | tmp t => cases hx; exact h.slot t
  | const c => exact vOf_sound hx
  | func f => cases hx; exact .fn .nil
  | global g => cases hx

def vevL (σ : Nat → V) : List Operand → Option (List V)
  | [] => some []
  | x :: xs => (vev σ x).bind fun v => (vevL σ xs).map (v :: ·)

theorem vevL_sound {E : Env} {σ : Nat → V} {N : Nat} {a : Act} (h : RepA E σ N a) : ∀ {xs : List Operand} {vs : List V}, vevL σ xs = some vs → RepL E vs (xs.map a.eval)
  | [], vs, e => by cases e; exact .nil
  | x :: xs, vs, e => by
    simp only [vevL, Option.bind_eq_some_iff, Option.map_eq_some_iff] at e
    obtain ⟨v, hv, l, hl, rfl⟩ := e
    exact .cons (vev_sound h hv) (vevL_sound h hl)

/-! ### What an operation does: the shape of its soundness -/
def Does (P : Program) (m : Sem Value) (E : Env) (s : S) (v : V) (s' : S) : Prop :=
  ∃ val E', m.run P E.w = .ok val E'.w ∧ Step E s E' s' ∧ RelS E' s' ∧ RepV E' v val

theorem Does.pure {P : Program} {m : Sem Value} {E : Env} {s : S} {v : V} {val : Value} (hr : RelS E s) (h : m.run P E.w = .ok val E.w) (hv : RepV E v val) : Does P m E s v s :=
  ⟨val, E, h, .refl _ _, hr, hv⟩

/-! ### Cells of a row -/
def takeV (cs : List V) (off size : Nat) (agg : Bool) : Option V :=
  if off + size ≤ cs.length then (if agg then some (.agg ((cs.drop off).take size)) else cs[off]?) else none

theorem add_eq (g o n : Nat) : (⟨g, o, none⟩ : Addr).add n = ⟨g, o + n, none⟩ := by
  unfold Addr.add
  split <;> simp_all

theorem run_isAgg {P : Program} {T : TypeId} {d : TypeDesc} (h : P.underlying T = some d) (w : World) : (isAgg T).run P w = .ok (isAggD d) w := by
  cases d <;> simp [isAgg, run_underlying h, isAggD]

theorem run_typeInfo' {P : Program} {T : TypeId} {i : TypeInfo} (h : P.info? T = some i) (w : World) : (typeInfo T).run P w = .ok i w := by
  simp [typeInfo, h]
theorem run_sizeOf' {P : Program} {T : TypeId} {i : TypeInfo} (h : P.info? T = some i) (w : World) : (sizeOf T).run P w = .ok i.size w := by
  simp [sizeOf, run_typeInfo' h]

theorem loadVar_does {P : Program} {T : TypeId} {t : Ty} (ht : tyOf P T = some t) {E : Env} {cs : List V} {vals : List Value} {g base off : Nat} {v : V}
    (r : RepL E cs vals) (hcell : ∀ j x, vals[j]? = some x → E.w.cell? ⟨g, base + j, none⟩ = some x) (h : takeV cs off t.size t.agg = some v) :
    ∃ val, (loadVar T ⟨g, base + off, none⟩).run P E.w = .ok val E.w ∧ RepV E v val := by
  obtain ⟨i, d, hi, hd, _, hs, _, hagg, _⟩ := tyOf_parts ht
  unfold takeV at h
  split at h
  case isFalse => cases h
  rename_i hle
  have hlen := r.length
  simp only [loadVar, Sem.run_bind, run_isAgg hd, Result.andThen_ok, hagg]
  split at h
  · rename_i ha
    cases h
    have hl : ((vals.drop off).take t.size).length = i.size := by
      rw [← hs, List.length_take, List.length_drop]; omega
    have := run_loadCells_list (P := P) E.w ⟨g, base + off, none⟩ ((vals.drop off).take t.size) (fun j x hx => by
      rw [add_eq, Nat.add_assoc]
      apply hcell
      rw [List.getElem?_take] at hx
      split at hx
      · simpa using hx
      · cases hx)
    rw [hl] at this
    refine ⟨.agg ((vals.drop off).take t.size).toArray, ?_, .agg ((r.drop off).take _)⟩
    simp [ha, run_sizeOf' hi, this]
  · rename_i ha
    obtain ⟨val, hv, hrep⟩ := r.get h
    refine ⟨val, ?_, hrep⟩
    simp [ha, hcell _ _ hv]

/-! ### load -/
def vload (P : Program) (T : TypeId) (x : V) (s : S) : Option V :=
  (tyOf P T).bind fun t => match x with
    | .ptr l off => (s.vars l).bind fun cs => takeV cs off t.size t.agg
    | .eptr cs off => takeV cs off t.size t.agg
    | _ => none

theorem vload_core {P : Program} {T : TypeId} {x v : V} {s : S} {E : Env} {val : Value} (hr : RelS E s) (hx : RepV E x val) (h : vload P T x s = some v) :
    ∃ ad y, val = .pointer (some ad) ∧ (loadVar T ad).run P E.w = .ok y E.w ∧ RepV E v y := by
  simp only [vload, Option.bind_eq_some_iff] at h
  obtain ⟨t, ht, h⟩ := h
  cases hx with
  | ptr hg =>
    obtain ⟨cs, hcs, h⟩ := Option.bind_eq_some_iff.1 h
    obtain ⟨g, arr, e, fr, h1, h2⟩ := hr.var _ _ hcs
    rw [hg] at h1
    cases h1
    obtain ⟨val, hrun, hrep⟩ := loadVar_does ht (base := 0) h2.rep (fun j x hx => by
      rw [cell_of_row E.w _ _ arr e fr h2.heap, Nat.zero_add]
      rw [List.getElem?_take] at hx
      split at hx
      · simpa using hx
      · cases hx) h
    exact ⟨_, _, rfl, by simpa using hrun, hrep⟩
  | eptr r sg =>
    obtain ⟨val, hrun, hrep⟩ := loadVar_does ht r (fun j x hx => (sg j x hx).2) h
    exact ⟨_, _, rfl, hrun, hrep⟩
  | _ => simp at h

theorem vload_sound {P : Program} {T : TypeId} {x v : V} {s : S} {E : Env} {val : Value} (hr : RelS E s) (hx : RepV E x val) (h : vload P T x s = some v) : Does P (Instr.loadAt T val) E s v s := by
  obtain ⟨ad, y, rfl, h1, h2⟩ := vload_core (P := P) hr hx h
  exact .pure hr (by simpa [Instr.loadAt, Instr.sureAddr] using h1) h2

/-! ### new variables -/
theorem box_sound {P : Program} {T : TypeId} {v : V} {s : S} {E : Env} {val : Value} (hr : RelS E s) (hx : RepV E v val) : Does P (Instr.box T val) E s (.ptr s.next 0) (s.newVar v.cells) := by
  have hl := hx.cells.length
  obtain ⟨h1, h2⟩ := step_newVar hr (arr := val.cells) (by rw [← hl, List.take_length]; exact hx.cells) (by simp only [Array.length_toList] at hl; omega) T (0, 0) (fun o _ h => by omega)
  refine ⟨.pointer (some ⟨E.w.heap.size, 0, none⟩), _, ?_, h1, h2, .ptr (by simp [Env.newVar])⟩
  simp [Instr.box, newVar, newRow, Env.newVar]

def valloc (P : Program) (T : TypeId) (s : S) : Option (V × S) :=
  (tyOf P T).bind fun t => if t.zero.length = t.size ∧ 0 < t.size then some (.ptr s.next 0, s.newVar t.zero) else none

theorem zero_rep {P : Program} {T : TypeId} {t : Ty} (ht : tyOf P T = some t) (h0 : t.zero.length = t.size ∧ 0 < t.size) :
    ∃ i z, P.info? T = some i ∧ i.zero = some z ∧ t.size = i.size ∧ z.cells.size = i.size ∧ ∀ E : Env, RepL E t.zero z.cells.toList := by
  obtain ⟨i, d, hi, hd, _, hs, _, _, hz⟩ := tyOf_parts ht
  cases hzz : i.zero with
  | none => rw [hzz] at hz; simp at hz; rw [hz] at h0; simp at h0; omega
  | some z =>
    rw [hzz] at hz
    simp only at hz
    cases hl : vOfL z.cells.toList with
    | none => rw [hl] at hz; simp at hz; rw [hz] at h0; simp at h0; omega
    | some vs =>
      rw [hl] at hz
      simp only [Option.getD_some] at hz
      have hrep : ∀ E : Env, RepL E t.zero z.cells.toList := fun E => by rw [hz]; exact vOfL_sound hl
      have := (hrep ⟨default, fun _ _ => False, fun _ => none, fun _ => none⟩).length
      exact ⟨i, z, hi, hzz, hs, by rw [← hs, ← h0.1, ← this]; simp, hrep⟩

theorem valloc_sound {P : Program} {T : TypeId} {s s' : S} {E : Env} {v : V} (hr : RelS E s) (h : valloc P T s = some (v, s')) : Does P (Instr.alloc T true (.tuple #[])) E s v s' := by
  simp only [valloc, Option.bind_eq_some_iff] at h
  obtain ⟨t, ht, h⟩ := h
  split at h
  case isFalse => cases h
  rename_i h0
  cases h
  obtain ⟨i, z, hi, hz, hs, _, hrep⟩ := zero_rep ht h0
  have hl := (hrep E).length
  obtain ⟨h1, h2⟩ := step_newVar hr (arr := z.cells) (by rw [← hl, List.take_length]; exact hrep E) (by simp only [Array.length_toList] at hl; omega) T (0, 0) (fun o _ h => by omega)
  refine ⟨.pointer (some ⟨E.w.heap.size, 0, none⟩), _, ?_, h1, h2, .ptr (by simp [Env.newVar])⟩
  simp [Instr.alloc, newVar, newRow, Env.newVar, zeroValue, typeInfo, hi, hz]

/-! ### store -/
def splice (cs : List V) (off : Nat) (vs : List V) : List V := cs.take off ++ vs ++ cs.drop (off + vs.length)

def vstore (P : Program) (T : TypeId) (x v : V) (s : S) : Option S :=
  (tyOf P T).bind fun t => match x with
    | .ptr l off => (s.vars l).bind fun cs =>
      if v.cells.length = t.size ∧ off + t.size ≤ cs.length ∧ v.cells.all V.one = true then some (s.setVar l (splice cs off v.cells)) else none
    | _ => none

theorem RepL.one {E : Env} : ∀ {vs : List V} {vals : List Value}, RepL E vs vals → vs.all V.one = true → ∀ x ∈ vals, x.oneCell' = true
  | _, _, .nil, _, x, hx => by cases hx
  | _, _, .cons h t, h1, x, hx => by
    simp only [List.all_cons, Bool.and_eq_true] at h1
    cases hx with
    | head => exact h.one h1.1
    | tail _ hx => exact RepL.one t h1.2 x hx

theorem run_storeCells_fr (P : Program) (g o : Nat) (t : TypeId) (fr : Nat × Nat) : ∀ (vs : List Value) (i : Nat) (cur : Array Value) (w : World), w.heap[g]? = some (.cells cur t fr) → o + i + vs.length ≤ cur.size →
    (∀ x, o + i ≤ x → x < o + i + vs.length → ¬ (fr.1 ≤ x ∧ x < fr.2)) → (∀ v ∈ vs, v.oneCell' = true) →
    (storeCells ⟨g, o, none⟩ vs i).run P w = .ok () (w.setRow g (cur.toList.take (o + i) ++ vs ++ cur.toList.drop (o + i + vs.length)).toArray)
  | [], i, cur, w, hg, _, _, _ => by
    simp only [storeCells, List.append_nil, List.length_nil, Nat.add_zero, List.take_append_drop, Array.toArray_toList]
    rw [setRow_self w g cur t fr hg]
    rfl
  | v :: rest, i, cur, w, hg, hl, hfr, h1 => by
    have hi : o + i < cur.size := by simp at hl; omega
    have hcell : w.cell? ⟨g, o + i, none⟩ = some cur[o + i] := by simp [World.cell?, hg, hi]
    have hfro : w.frozen? ⟨g, o + i, none⟩ = false := by
      have := hfr (o + i) (Nat.le_refl _) (by simp)
      simp only [World.frozen?, hg]
      rw [Bool.eq_false_iff]
      simpa using this
    have hst : (store ((⟨g, o, none⟩ : Addr).add i) v).run P w = .ok () (w.setRow g (cur.setIfInBounds (o + i) v)) := by
      rw [add_eq, run_store P w _ v _ (h1 v (by simp)), hcell]
      simp [hfro, setCell_eq_setRow w g (o + i) cur t fr v hg]
    have ih := run_storeCells_fr P g o t fr rest (i + 1) (cur.setIfInBounds (o + i) v) (w.setRow g (cur.setIfInBounds (o + i) v)) (setRow_heap w g cur _ t _ hg) (by simp at hl ⊢; omega)
      (fun x hx hx2 => hfr x (by omega) (by simp; omega)) (fun x hx => h1 x (by simp [hx]))
    simp only [storeCells, Sem.run_bind, hst, Result.andThen_ok, ih, setRow_setRow]
    congr 3
    have e := list_seg_step cur.toList (o + i) v rest (by simp at hl ⊢; omega)
    simpa [Array.toList_setIfInBounds, Nat.add_assoc] using e

theorem vstore_sound {P : Program} {T : TypeId} {x v : V} {s s' : S} {E : Env} {xval val : Value} (hr : RelS E s) (hx : RepV E x xval) (hv : RepV E v val) (h : vstore P T x v s = some s') :
    ∃ E', (Instr.storeAt T xval val).run P E.w = .ok () E'.w ∧ Step E s E' s' ∧ RelS E' s' := by
  simp only [vstore, Option.bind_eq_some_iff] at h
  obtain ⟨t, ht, h⟩ := h
  obtain ⟨i, d, hi, hd, _, hs, _, hagg, _⟩ := tyOf_parts ht
  cases hx with
  | @ptr l off g hg =>
    obtain ⟨cs, hcs, h⟩ := Option.bind_eq_some_iff.1 h
    split at h
    case isFalse => cases h
    rename_i hc
    obtain ⟨c1, c2, c3⟩ := hc
    cases h
    obtain ⟨g', arr, e, fr, h1, h2⟩ := hr.var _ _ hcs
    rw [hg] at h1
    cases h1
    have hvc := hv.cells
    have hl1 := hvc.length
    have hl2 := h2.rep.length
    have hle := h2.le
    have hsplen : (splice cs off v.cells).length = cs.length := by
      unfold splice
      simp only [List.length_append, List.length_take, List.length_drop]
      omega
    have hrep : RepL E (splice cs off v.cells) ((arr.toList.take off ++ val.cells.toList ++ arr.toList.drop (off + val.cells.toList.length)).toArray.toList.take (splice cs off v.cells).length) := by
      have e1 : (arr.toList.take off ++ val.cells.toList ++ arr.toList.drop (off + val.cells.toList.length)).take cs.length =
          (arr.toList.take cs.length).take off ++ val.cells.toList ++ (arr.toList.take cs.length).drop (off + val.cells.toList.length) := by
        rw [List.take_take, Nat.min_eq_left (by omega), List.append_assoc, List.append_assoc, List.take_append, List.take_append]
        have l1 : (arr.toList.take off).length = off := by simp only [List.length_take, Array.length_toList]; omega
        rw [l1, List.take_take, Nat.min_eq_right (by omega), List.take_of_length_le (by omega : val.cells.toList.length ≤ cs.length - off), List.drop_take]
        congr 3
        omega
      rw [hsplen]
      show RepL E _ ((arr.toList.take off ++ val.cells.toList ++ arr.toList.drop (off + val.cells.toList.length)).take cs.length)
      rw [e1]
      unfold splice
      rw [hl1]
      exact ((h2.rep.take off).append hvc).append (h2.rep.drop _)
    have hlen' : (splice cs off v.cells).length ≤ (arr.toList.take off ++ val.cells.toList ++ arr.toList.drop (off + val.cells.toList.length)).toArray.size := by
      rw [hsplen]
      simp only [List.size_toArray, List.length_append, List.length_take, List.length_drop, Array.length_toList] at *
      omega
    obtain ⟨k1, k2⟩ := step_setVar hr hcs hg h2 hsplen hrep hlen'
    refine ⟨_, ?_, k1, k2⟩
    have hst := run_storeCells_fr P g off e fr val.cells.toList 0 arr E.w h2.heap (by simp only [Array.length_toList] at *; omega) (fun x hx1 hx2 => h2.free x (by omega)) (RepL.one hvc c3)
    simp only [Nat.add_zero] at hst
    have hsz : ¬ val.cells.size ≠ i.size := by simp only [Array.length_toList] at *; omega
    simp only [Instr.storeAt, Instr.sureAddr, Sem.run_bind, Sem.run_pure, Result.andThen_ok, storeVar, sizeOf, typeInfo, hi, run_program, hsz, if_false, hst]
    rfl
  | _ => simp at h

end Go.Proofs.Ytejdgmdebfkkeaa
